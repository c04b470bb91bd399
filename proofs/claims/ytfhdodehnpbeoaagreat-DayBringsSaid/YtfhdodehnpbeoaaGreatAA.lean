/- The evaluator, part 1; no theorem of a claim. -/
import Derived.Below
import Derived.Laws.Cells
import Derived.Laws.Rows
import Derived.Laws.Entries
import Derived.Laws.Sem
import Derived.ChangeKeysEq
set_option linter.all false
namespace Go.Abs
open List
abbrev au := @if_pos
abbrev aq := @if_neg
abbrev bO := @decide_eq_true_eq
abbrev gP := @decide_eq_false_iff_not
abbrev ia := @List.getElem?_eq_some_iff
abbrev j7 := @take_succ_eq_append_getElem
abbrev pH := @Nat.mul_le_mul_right
abbrev dS := @append_assoc
abbrev ct := @length_append
abbrev dH := @getElem_mem
abbrev gF := @getElem?_eq_getElem
abbrev cz := @Bool.true_and
abbrev dU := @Bool.false_and
abbrev fC := @mem_of_getElem?
abbrev dN := @Nat.lt_or_ge
abbrev fO := @Nat.le_refl
abbrev cg := @all_eq_true
abbrev dw := @decide_eq_true
abbrev gB := @decide_eq_false
abbrev eU := @take_length
abbrev gh := @length_take
abbrev iC := @length_drop
abbrev jJ := @drop_length
abbrev sD := @Bool.false_ne_true
abbrev iN := @Bool.not_eq_true'
abbrev n5 := @take_append_drop
abbrev jR := @pairwise_cons
abbrev Ay := @pairwise_iff_getElem
abbrev qN := @Option.some.injEq
abbrev iD := @mem_singleton
abbrev fE := @beq_iff_eq
abbrev lZ := @Bool.eq_iff_iff
abbrev jv := @map_append
abbrev pL := @filter_append
def aK:True:=True.intro
def aj{p:Prop}(h:p:=by omega):p:=h
open Go.RowKit (Below)

inductive D where
 |undef
 |bool (b:Bool)
 |int (k:IntKind) (n:Int)
 |str (s:ByteArray)
 |nil
 |emp
 |ot
 |iZ
 |jW
 |qP
 |fn (f:FuncId) (caps:List D)
 |agg (cs:List D)
 |bD (ds:List D)
 |sl (z:Nat) (rows:List (List D))
 |bG (cs:List D)
 |ref (r:Nat)
 |addr (r off:Nat)
 |dO (r z i k:Nat)
 |gl (r z lo len:Nat)
 |dZ (r off z len cap:Nat)
 |own (z:Nat) (rows:List (List D))
 |box (cs:List D)

structure Env where
 t:Nat->D
 o:Nat->D
def e0:Env:=⟨λ_=>.undef,λ_=>.undef⟩
def cQ(e:Env)(i:Nat)(d:D):Env:=⟨λj=>if j=i then d else e.t j,e.o⟩
def eV(e:Env)(i:Nat)(d:D):Env:=⟨e.t,λj=>if j=i then d else e.o j⟩
def PC(e:Env)(i:Nat)(d:D):(cQ e i d).t i=d:=by simp[cQ]
variable{d:D}{j i:Nat}{e:Env}
def wQ(h:j≠i):(cQ e i d).t j=e.t j:=by simp[cQ,h]
def aav(e:Env)(i:Nat)(d:D):(eV e i d).o i=d:=by simp[eV]
def Yh(h:j≠i):(eV e i d).o j=e.o j:=by simp[eV,h]

mutual
def D.names:D->List Nat
 | .fn _ cs=>D.cq cs
 | .agg cs=>D.cq cs
 | .bD cs=>D.cq cs
 | .box cs=>D.cq cs
 | .ref r=>[r]
 | .addr r _=>[r]
 | .dO r _ _ _=>[r]
 | .gl r _ _ _=>[r]
 | .dZ r _ _ _ _=>[r]
 | _=>[]
def D.cq:List D->List Nat
 | []=>[]
 |d::r=>d.names++D.cq r
end
theorem fZ:∀{cs:List D} {s:Nat},s∈D.cq cs↔∃d∈cs,s∈d.names
 | [],s=>by simp[D.cq]
 |d::r,s=>by simp[D.cq,fZ (cs:=r)]
mutual
/-- what names object r is forgotten -/
def D.kill(r:Nat):D->D
 | .fn f cs=>.fn f (D.nu r cs)
 | .agg cs=>.agg (D.nu r cs)
 | .bD cs=>.bD (D.nu r cs)
 | .box cs=>.box (D.nu r cs)
 | .ref s=>if s=r then .undef else .ref s
 | .addr s o=>if s=r then .undef else .addr s o
 | .dO s z i k=>if s=r then .undef else .dO s z i k
 | .gl s z l n=>if s=r then .undef else .gl s z l n
 | .dZ s o z n c=>if s=r then .undef else .dZ s o z n c
 |d=>d
def D.nu(r:Nat):List D->List D
 | []=>[]
 |d::l=>d.kill r::D.nu r l
end
theorem nH(r:Nat):∀cs:List D,D.nu r cs=cs.map (D.kill r)
 | []=>rfl
 |d::l=>by rw[D.nu,nH r l];rfl
def nr(r:Nat)(e:Env):Env:=⟨λj=>(e.t j).kill r,λj=>if j=r then .undef else(e.o j).kill r⟩

def gM:D->Prop
 | .undef| .agg _| .bD _| .box _| .own _ _=>False
 | _=>True
def cE(d:D):Prop:=gM d/\d.names=[]

structure Cx where
 V:Addr->Option Value
 S:Nat->Option Value

inductive aO(C:Cx):Value->D->Prop
 |undef (v:Value):aO C v .undef
 |bool (b:Bool):aO C (.bool b) (.bool b)
 |int (k:IntKind) (n:Int):aO C (.int k n) (.int k n)
 |str (s:ByteArray):aO C (.string s) (.str s)
 |nil:aO C (.slice none 0 0) .nil
 |emp (a:Option Addr):aO C (.slice a 0 0) .emp
 |ot:aO C .nilFunc .ot
 |iZ:aO C .nilIface .iZ
 |jW (t:TypeId) (v:Value):aO C (.iface t v) .jW
 |qP:aO C (.pointer none) .qP
 |fn (f:FuncId) (vs:Array Value) (ds:List D):vs.size=ds.length->(∀(i:Nat) v d,vs[i]?=some v->ds[i]?=some d->aO C v d)->aO C (.func (.func f) #[] vs) (.fn f ds)
 |agg (vs:Array Value) (ds:List D):vs.size=ds.length->(∀(i:Nat) v d,vs[i]?=some v->ds[i]?=some d->aO C v d)->aO C (.agg vs) (.agg ds)
 |bD (vs:Array Value) (ds:List D):vs.size=ds.length->(∀(i:Nat) v d,vs[i]?=some v->ds[i]?=some d->aO C v d)->aO C (.tuple vs) (.bD ds)
 |slnil (z:Nat):aO C (.slice none 0 0) (.sl z [])
 |sl (z:Nat) (a:Addr) (cap:Nat) (rows:List (List D)) (f:Nat->Nat->Value):rows.length<=cap->(∀r∈rows,r.length=z)->(∀r∈rows,∀d∈r,cE d) ->
   (∀(i j:Nat) r d,rows[i]?=some r->r[j]?=some d->C.V (a.add (i*z+j))=some (f i j)) ->
   (∀(i j:Nat) r d,rows[i]?=some r->r[j]?=some d->aO C (f i j) d)->aO C (.slice (some a) rows.length cap) (.sl z rows)
 |bG (a:Addr) (cs:List D) (f:Nat->Value):(∀d∈cs,d.names=[])->(∀(j:Nat) d,cs[j]?=some d->C.V (a.add j)=some (f j))->(∀(j:Nat) d,cs[j]?=some d->aO C (f j) d)->aO C (.pointer (some a)) (.bG cs)
 |ref (r:Nat) (a:Option Addr) (len cap:Nat):C.S r=some (.slice a len cap)->aO C (.slice a len cap) (.ref r)
 |addr (r off:Nat) (a:Addr):C.S r=some (.pointer (some a))->aO C (.pointer (some (a.add off))) (.addr r off)
 |dO (r z i k:Nat) (a:Addr) (len cap:Nat):C.S r=some (.slice (some a) len cap)->aO C (.pointer (some (a.add (i*z+k)))) (.dO r z i k)
 |gl (r z lo len:Nat) (a a':Option Addr) (L cap cap':Nat):C.S r=some (.slice a L cap)->(len≠0->∃b,a=some b/\a'=some (b.add (lo*z)))->len<=cap'->(a'=none->cap'=0)->aO C (.slice a' len cap') (.gl r z lo len)
 |dZ (r off z len cap:Nat) (a:Addr) (a':Option Addr):C.S r=some (.pointer (some a))->(cap≠0->a'=some (a.add off))->len<=cap->aO C (.slice a' len cap) (.dZ r off z len cap)

variable{v:Value}{C C':Cx}
theorem aO.keep(p:∀a v,C.V a=some v->C'.V a=some v)(r:aO C v d)(m:∀s∈d.names,∀u,C.S s=some u->C'.S s=some u):aO C' v d:=by
 induction r with
 |undef v=>exact .undef v
 |bool b=>exact .bool b
 |int k n=>exact .int k n
 |str s=>exact .str s
 |nil=>exact .nil
 |emp a=>exact .emp a
 |ot=>exact .ot
 |iZ=>exact .iZ
 |jW t v=>exact .jW t v
 |qP=>exact .qP
 |fn f vs ds hl _ ih=>exact .fn f vs ds hl λi v d g o=>ih i v d g o λs c=>m s (by simp only[D.names];exact fZ.2 ⟨d,fC o,c⟩)
 |agg vs ds hl _ ih=>exact .agg vs ds hl λi v d g o=>ih i v d g o λs c=>m s (by simp only[D.names];exact fZ.2 ⟨d,fC o,c⟩)
 |bD vs ds hl _ ih=>exact .bD vs ds hl λi v d g o=>ih i v d g o λs c=>m s (by simp only[D.names];exact fZ.2 ⟨d,fC o,c⟩)
 |slnil z=>exact .slnil z
 |sl z a cap rows f hl hz hk hc _ ih =>
  refine .sl z a cap rows f hl hz hk (λi j r d g l=>p _ _ (hc i j r d g l)) λi j r d g l=>ih i j r d g l ?_;intro s c;rw[(hk r (fC g) d (fC l)).2]at c;cases c
 |bG a cs f hn hc _ ih =>
  refine .bG a cs f hn (λj d l=>p _ _ (hc j d l)) λj d l=>ih j d l ?_;intro s c;rw[hn d (fC l)]at c;cases c
 |ref r a len cap h=>exact .ref r a len cap (m r (by simp[D.names]) _ h)
 |addr r off a h=>exact .addr r off a (m r (by simp[D.names]) _ h)
 |dO r z i k a len cap h=>exact .dO r z i k a len cap (m r (by simp[D.names]) _ h)
 |gl r z lo len a a' L cap cap' h h1 h2 h3=>exact .gl r z lo len a a' L cap cap' (m r (by simp[D.names]) _ h) h1 h2 h3
 |dZ r off z len cap a a' h h1 h2=>exact .dZ r off z len cap a a' (m r (by simp[D.names]) _ h) h1 h2
def aO.mono(c:∀a v,C.V a=some v->C'.V a=some v)(b:∀s u,C.S s=some u->C'.S s=some u)(r:aO C v d):aO C' v d:=
 r.keep c λs _=>b s

mutual
theorem zo(r:Nat):∀(d:D),∀s∈(d.kill r).names,s∈d.names/\s≠r
 | .fn f cs=>λs h=>by simp only[D.kill,D.names]at h |-;exact qG r cs s h
 | .agg cs=>λs h=>by simp only[D.kill,D.names]at h |-;exact qG r cs s h
 | .bD cs=>λs h=>by simp only[D.kill,D.names]at h |-;exact qG r cs s h
 | .box cs=>λs h=>by simp only[D.kill,D.names]at h |-;exact qG r cs s h
 | .ref t=>λs h=>by simp only[D.kill]at h;split at h<;>simp_all[D.names]
 | .addr t o=>λs h=>by simp only[D.kill]at h;split at h<;>simp_all[D.names]
 | .dO t z i k=>λs h=>by simp only[D.kill]at h;split at h<;>simp_all[D.names]
 | .gl t z l n=>λs h=>by simp only[D.kill]at h;split at h<;>simp_all[D.names]
 | .dZ t o z n c=>λs h=>by simp only[D.kill]at h;split at h<;>simp_all[D.names]
 | .undef| .bool _| .int _ _| .str _| .nil| .emp| .ot| .iZ| .jW| .qP| .sl _ _| .bG _| .own _ _=>λs h=>by simp[D.kill,D.names]at h
theorem qG(r:Nat):∀(cs:List D),∀s∈D.cq (D.nu r cs),s∈D.cq cs/\s≠r
 | []=>λs h=>by simp[D.nu,D.cq]at h
 |d::l=>λs h=>by
  simp only[D.nu,D.cq,mem_append]at h |-;rcases h with h|h
  ·exact⟨.inl (zo r d s h).1,(zo r d s h).2⟩
  ·exact⟨.inr (qG r l s h).1,(qG r l s h).2⟩
end
theorem aO.ag3(r:Nat)(h:aO C v d):aO C v (d.kill r):=by
 have o:∀(vs:Array Value)(ds:List D),vs.size=ds.length->(∀(i:Nat) v d,vs[i]?=some v->ds[i]?=some d->aO C v (d.kill r)) ->
   vs.size=(D.nu r ds).length/\∀(i:Nat) v d,vs[i]?=some v->(D.nu r ds)[i]?=some d->aO C v d:=by
  intro vs ds l m;rw[nH];refine⟨by simpa using l,?_⟩;intro i v d q p;simp only[getElem?_map]at p;cases e:ds[i]? with
  |none=>rw[e]at p;cases p
  |some x=>rw[e]at p;cases p;exact m i v x q e
 induction h with
 |fn f vs ds l h m=>obtain⟨c,g⟩:=o vs ds l m;simp only[D.kill];exact .fn f vs _ c g
 |agg vs ds l _ m=>obtain⟨c,g⟩:=o vs ds l m;simp only[D.kill];exact .agg vs _ c g
 |bD vs ds l _ m=>obtain⟨c,g⟩:=o vs ds l m;simp only[D.kill];exact .bD vs _ c g
 |undef v=>exact .undef v
 |bool b=>exact .bool b
 |int k n=>exact .int k n
 |str s=>exact .str s
 |nil=>exact .nil
 |emp a=>exact .emp a
 |ot=>exact .ot
 |iZ=>exact .iZ
 |jW t v=>exact .jW t v
 |qP=>exact .qP
 |slnil z=>exact .slnil z
 |sl z a cap rows f l hz hk hc c _=>exact .sl z a cap rows f l hz hk hc c
 |bG a cs f hn hc c _=>exact .bG a cs f hn hc c
 |ref r' a len cap h=>simp only[D.kill];split;exact .undef _;exact .ref r' a len cap h
 |addr r' off a h=>simp only[D.kill];split;exact .undef _;exact .addr r' off a h
 |dO r' z i k a len cap h=>simp only[D.kill];split;exact .undef _;exact .dO r' z i k a len cap h
 |gl r' z lo len a a' L cap cap' h c g h3=>simp only[D.kill];split;exact .undef _;exact .gl r' z lo len a a' L cap cap' h c g h3
 |dZ r' off z len cap a a' h c g=>simp only[D.kill];split;exact .undef _;exact .dZ r' off z len cap a a' h c g

def vis(w:World)(lev:Nat->Option Nat)(a:Addr):Option Value:=
 match lev a.block with
 |none=>w.cell? a
 |some n=>if a.off<n then w.cell? a else none
variable{lev:Nat->Option Nat}{w:World}
def uc{a:Addr}(h:vis w lev a=some v):w.cell? a=some v:=by
 unfold vis at h;split at h
 ·exact h
 ·split at h
  ·exact h
  ·cases h
abbrev cx(w:World)(lev:Nat->Option Nat)(S:Nat->Option Value):Cx:=⟨vis w lev,S⟩

def Yn(G:Nat->Option (Nat×Nat))(B b lo a:Nat):Prop:=B<=b\/∃l h,G b=some (l,h)/\l<=lo/\a<=h
def n8(B:Nat)(G:Nat->Option (Nat×Nat))(w:World)(lev own:Nat->Option Nat)(S:Nat->Option Value)(r:Nat):D->Prop
 | .box cs=>∃(b o:Nat)(c:Array Value)(E:TypeId),S r=some (.pointer (some ⟨b,o,none⟩))/\w.heap[b]?=some (.cells c E (0,0))/\o+cs.length<=c.size/\lev b=some 0/\own b=some r /\
   Yn G B b o (o+cs.length)/\∀(j:Nat) u e,c[o+j]?=some u->cs[j]?=some e->aO (cx w lev S) u e
 | .own z rows=>(∃a,S r=some (.slice a 0 0)/\rows=[])\/∃(b:Nat)(c:Array Value)(E:TypeId)(cap:Nat),S r=some (.slice (some ⟨b,0,none⟩) rows.length cap)/\w.heap[b]?=some (.cells c E (0,0)) /\
   c.size=cap*z/\rows.length<=cap/\(∀r∈rows,r.length=z)/\(∀r∈rows,∀d∈r,cE d)/\lev b=some 0/\own b=some r/\Yn G B b 0 c.size /\
   ∀(i j:Nat) row d,rows[i]?=some row->row[j]?=some d->∃u,c[i*z+j]?=some u/\aO (cx w lev S) u d
 | .undef=>S r=none
 | _=>False

def oY(tmps:Array Value):Nat->Value:=λt=>tmps.getD t Go.undef

def pG(f w:World)(b lo a:Nat):Prop:=
 ∃(c0 c:Array Value)(E:TypeId),f.heap[b]?=some (.cells c0 E (0,0))/\w.heap[b]?=some (.cells c E (0,0))/\c.size=c0.size/\∀j,(j<lo\/a<=j)->c[j]?=c0[j]?

inductive Jb where
 |ints (k:IntKind) (l:List Int)
 |atP (k:IntKind)
 |atA
def Jb.holds:Jb->Array Value->Prop
 | .ints k l,c=>c=(l.map λn=>Value.int k n).toArray
 | .atP k,c=>∃n,c[0]?=some (.int k n)
 | .atA,c=>∃v,c[0]?=some v/\(v=.nilIface\/∃t u,v=.iface t u)
def tabs:List (Nat×Jb):=[]
def aaX(w:World)(G:Nat->Option (Nat×Nat)):Prop:=∀t∈tabs,G t.1=none/\∃E x c,w.heap[t.1]?=some (.cells c E x)/\t.2.holds c
structure Inv(w0:World)(l0:Nat->Option Nat)(G:Nat->Option (Nat×Nat))(S0:Nat->Option Value)(w:World)(lev own:Nat->Option Nat)(S:Nat->Option Value)(env:Env)(tm:Nat->Value):Prop where
 os:w.os=w0.os/\aaX w0 G
 tape:w.tape=w0.tape
 output:w.output=w0.output
 size:w0.heap.size<=w.heap.size
 old:∀b,b<w0.heap.size->G b=none->w.heap[b]?=w0.heap[b]?
 part:∀b lo hi,G b=some (lo,hi)->pG w0 w b lo hi
 priv:∀b m,lev b=some m->b<w.heap.size
 mT:∀b,b<w0.heap.size->G b=none->lev b=l0 b
 VH:∀i,i<16->env.o i≠.undef->S i=S0 i
 rP:∀s,aO (cx w lev S) (tm s) (env.t s)
 objs:∀r,n8 w0.heap.size G w lev own S r (env.o r)

def rW(w:World)(lev:Nat->Option Nat)(w':World)(lev':Nat->Option Nat):Prop:=∀a v,vis w lev a=some v->vis w' lev' a=some v
variable{w':World}{S S':Nat->Option Value}{lev':Nat->Option Nat}
def aO.iL(r:aO (cx w lev S) v d)(b:rW w lev w' lev')(a:∀s∈d.names,∀u,S s=some u->S' s=some u):aO (cx w' lev' S') v d:=
 aO.keep (C:=cx w lev S) (C':=cx w' lev' S') b r a
def aO.Ax(r:aO (cx w lev S) v d)(b:rW w lev w' lev')(a:∀s u,S s=some u->S' s=some u):aO (cx w' lev' S') v d:=
 r.iL b λs _=>a s
def rW.refl(w:World)(lev:Nat->Option Nat):rW w lev w lev:=λ_ _ h=>h

abbrev D.I(n:Int):D:=.int .i64 n
end Go.Abs
namespace Go.Abs

structure FT where
 off:Nat
 sz:Nat
 agg:Bool
structure HR where
 agg:Bool
 sz:Nat
inductive Ty where
 |int (k:IntKind)
 |bool
 |str
 |ptr
 |func
 |slice (z by_:Nat) (eagg:Bool)
 |arr (n z:Nat) (eagg:Bool)
 |struct (fs:List FT)
 |bad

def PX:TypeDesc->Bool
 | .struct _| .array _ _=>true
 | _=>false
def jx(P:Program)(t:TypeId):Option HR:=
 match P.underlying t,P.info? t with
 |some d,some i=>some ⟨PX d,i.size⟩
 | _,_=>none
def tC(P:Program):List Field->Option (List FT)
 | []=>some []
 |f::r=>match jx P f.type,tC P r with
  |some l,some fs=>if l.sz=0 then none else some (⟨f.offset,l.sz,l.agg⟩::fs)
  | _,_=>none
def fD(P:Program)(t:TypeId):Ty:=
 match P.underlying t with
 |some (.int k)=>.int k
 |some .bool=>.bool
 |some .string=>.str
 |some (.pointer _)=>.ptr
 |some (.func _ _ _)=>.func
 |some (.slice e)=>match jx P e,P.info? e with
  |some l,some i=>if l.sz=0 then .bad else if(i.zero.map λv=>v.cells.size)=some l.sz then .slice l.sz i.bytes l.agg else .bad
  | _,_=>.bad
 |some (.array n e)=>match jx P e with
  |some l=>if l.sz=0 then .bad else .arr n l.sz l.agg
  |none=>.bad
 |some (.struct fs)=>match tC P fs.toList with
  |some l=>.struct l
  |none=>.bad
 | _=>.bad

def wZ:Value->D
 | .bool b=>.bool b
 | .int k n=>.int k n
 | .string s=>.str s
 | .slice none 0 0=>.nil
 | .nilFunc=>.ot
 | .nilIface=>.iZ
 | .pointer none=>.qP
 | _=>.undef
def uk:Value->D
 | .agg cs=>.agg (cs.toList.map wZ)
 | .tuple vs=>if vs.size=0 then .bD []else .undef
 |v=>wZ v
def oI(P:Program)(t:TypeId):Option (List D):=
 match P.info? t with
 |some i=>i.zero.map λv=>v.cells.toList.map wZ
 |none=>none

def D.cells:D->List D
 | .agg cs=>cs
 |d=>[d]
def rd(e:Env):Operand->D
 | .tmp t=>e.t t
 | .const v=>uk v
 | .global _=>.undef
 | .func f=>.fn f []

def gd(g:Bool)(d:D):D:=if g then d else .bD []

def MQ(c:BinOp)(k:IntKind)(a b:Int):D:=
 match c with
 | .add=>.int k (k.wrap (a+b))
 | .sub=>.int k (k.wrap (a-b))
 | .mul=>.int k (k.wrap (a*b))
 | .quo=>.int k (k.wrap (a.tdiv b))
 | .rem=>.int k (a.tmod b)
 | .and=>.int k (k.wrap (BitVec.ofInt k.bits a &&& BitVec.ofInt k.bits b).toNat)
 | .or=>.int k (k.wrap (BitVec.ofInt k.bits a |||BitVec.ofInt k.bits b).toNat)
 | .xor=>.int k (k.wrap (BitVec.ofInt k.bits a ^^^ BitVec.ofInt k.bits b).toNat)
 | .andNot=>.int k (k.wrap (BitVec.ofInt k.bits a &&& ~~~ BitVec.ofInt k.bits b).toNat)
 | .shl=>.int k (k.wrap (a*2^(min b.toNat k.bits)))
 | .shr=>.int k (a.fdiv (2^(min b.toNat k.bits)))
 | .eql=>.bool (a==b)
 | .neq=>.bool (a != b)
 | .lss=>.bool (decide (a<b))
 | .leq=>.bool (decide (a<=b))
 | .gtr=>.bool (decide (b<a))
 | .geq=>.bool (decide (b<=a))
def sj(c:BinOp)(k a:IntKind)(b:Int):Prop:=
 match c with
 | .shl| .shr=>0<=b
 | .quo| .rem=>k=a/\b≠0
 | _=>k=a
def sop(c:BinOp)(a b:ByteArray):D:=
 match c with
 | .add=>.str (a++b)
 | .eql=>.bool (a.toList==b.toList)
 | .neq=>.bool (!(a.toList==b.toList))
 | .lss=>.bool (Op.bytesLess a.toList b.toList)
 | .leq=>.bool (Op.bytesLess a.toList b.toList||a.toList==b.toList)
 | .gtr=>.bool (!(Op.bytesLess a.toList b.toList||a.toList==b.toList))
 | .geq=>.bool (!Op.bytesLess a.toList b.toList)
 | _=>.undef
def Pp(c:BinOp)(a b:ByteArray):Prop:=
 match c with
 | .add=>a.size+b.size<=2^62
 | .eql| .neq| .lss| .leq| .gtr| .geq=>True
 | _=>False
inductive xL where
 |int|bool|str
def yd(lv:TypeId->Option (List xL)):List Field->Nat->Option (List xL)
 | [],_=>some []
 | f :: r, off => if f.name != "_" && f.offset == off then (match lv f.type with
  |some ls=>(yd lv r (off+ls.length)).map λrs=>ls++rs
  |none=>none)else none
def lW(P:Program):Nat->TypeId->Option (List xL)
 | 0,_=>none
 |k+1,t=>match P.underlying t,jx P t with
  |some (.int _),some ⟨false,1⟩=>some [.int]
  |some .bool,some ⟨false,1⟩=>some [.bool]
  |some .string,some ⟨false,1⟩=>some [.str]
  |some (.struct fs),some ⟨true,sz⟩=>if P.stoodInHeld t||P.eqGuardType P.depth t then none else(match yd (lW P k) fs.toList 0 with
   |some ls=>if ls.length=sz/\sz≠0 then some ls else none
   |none=>none)
  |some (.array n e),some ⟨true,sz⟩=>if P.eqGuardType P.depth t then none else(match lW P k e with
   |some ls=>if n*ls.length=sz/\sz≠0 then some (List.replicate n ls).flatten else none
   |none=>none)
  | _,_=>none
def AQ:D->D->Bool
 | .int _ a,.int _ b=>a==b
 | .bool a,.bool b=>a==b
 | .str a,.str b=>a==b
 | _,_=>false
def eZ:List D->List D->Bool
 |a::x,b::y=>AQ a b&&eZ x y
 | _,_=>true
def Ks:xL->D->D->Prop
 | .int,.int k _,.int k' _=>k=k'
 | .bool,.bool _,.bool _=>True
 | .str,.str _,.str _=>True
 | _,_,_=>False
def gS:List xL->List D->List D->Prop
 | [],[],[]=>True
 |l::ls,a::x,b::y=>Ks l a b/\gS ls x y
 | _,_,_=>False
def N8(a:BinOp)(b:Bool):D:=
 match a with
 | .eql=>.bool b
 | .neq=>.bool (!b)
 | _=>.undef
def CC(c:BinOp):D->D->D
 | .int k a,.int _ b=>MQ c k a b
 | .str a,.str b=>sop c a b
 | .bool a,.bool b=>N8 c (a==b)
 | .agg a,.agg b=>N8 c (eZ a b)
 | .iZ,.iZ=>N8 c true
 | .jW,.iZ=>N8 c false
 | .iZ,.jW=>N8 c false
 | .qP,.qP=>N8 c true
 | .addr _ _,.qP=>N8 c false
 | .bG _,.qP=>N8 c false
 | _,_=>.undef
def Jl(c:BinOp)(t:Ty):D->D->Prop
 | .int k _,.int k' b=>sj c k k' b
 | .str a,.str b=>Pp c a b
 | .bool _,.bool _=>(c=.eql\/c=.neq)/\t=.bool
 | _,_=>False
def isEq(a:BinOp):Prop:=a=.eql\/a=.neq
def yf(o:Option (List xL))(a b:List D):Prop:=
 match o with
 |some ls=>gS ls a b
 |none=>False
def isIface(P:Program)(t:TypeId):Bool:=
 match P.underlying t with
 |some (.interface _)=>true
 | _=>false
def Gp(P:Program)(t:TypeId):Bool:=
 match jx P t with
 |some l=>l.agg
 |none=>false
def Tj:Ty->Prop
 | .ptr=>True
 | _=>False
def AJ(P:Program)(c:Bool)(d:BinOp)(t:TypeId):D->D->Prop
 | .agg a,.agg b=>isEq d/\Gp P t=true/\yf (lW P 9 t) a b
 | .iZ,.iZ=>isEq d/\isIface P t=true/\c=true
 | .jW,.iZ=>isEq d/\isIface P t=true
 | .iZ,.jW=>isEq d/\isIface P t=true
 | .qP,.qP=>isEq d/\Tj (fD P t)
 | .addr _ _,.qP=>isEq d/\Tj (fD P t)
 | .bG _,.qP=>isEq d/\Tj (fD P t)
 |a,b=>Jl d (fD P t) a b
def isConst:Operand->Bool
 | .const _=>true
 | _=>false
def BY(a:UnOp):D->D
 | .int k n=>match a with
  | .neg=>.int k (k.wrap (0-n))
  | .xor=>.int k (k.wrap (BitVec.ofInt k.bits (if k.signed then -1 else k.max) ^^^ BitVec.ofInt k.bits n).toNat)
  | _=>.undef
 | .bool b=>match a with
  | .not=>.bool (!b)
  | _=>.undef
 | _=>.undef
def xJ(a:UnOp):D->Prop
 | .int _ _=>a=.neg\/a=.xor
 | .bool _=>a=.not
 | _=>False
def NY(s t:Ty):D->D
 | .int _ n=>match t with
  | .int k=>.int k (k.wrap n)
  | _=>.undef
 | .str b=>match t with
  | .str=>.str b
  | _=>.undef
 |d=>match s,t with
  | _,_=>d
def JJ(s t:Ty):D->Prop
 | .int _ _=>(∃k,t=.int k)/\∃k,s=.int k
 | .str _=>t=.str/\s=.str
 | _=>False

def part(agg:Bool)(off n:Nat)(cs:List D):D:=if agg then .agg ((cs.drop off).take n)else(cs.drop off).headD .undef
def faV(a:List FT)(f:Nat):D->D
 | .addr r o=>.addr r (o+((a[f]?).map (·.off)).getD 0)
 | .dO r z i k=>.dO r z i (k+((a[f]?).map (·.off)).getD 0)
 | .bG cs=>.bG (cs.drop (((a[f]?).map (·.off)).getD 0))
 | _=>.undef
def YV(a:List FT)(f:Nat):D->Prop
 | .addr _ _=>f<a.length
 | .dO _ _ _ _=>f<a.length
 | .bG _=>f<a.length
 | _=>False
def Y4(e:Env)(t:Ty):D->D->D
 | .sl _ rows,.int _ i=>.bG (rows.getD i.toNat [])
 | .ref r,.int _ i=>match t with
  | .slice z _ _=>.dO r z i.toNat 0
  | _=>.undef
 | .gl r z lo _,.int _ i=>.dO r z (lo+i.toNat) 0
 | .dZ r off z _ _,.int _ i=>.addr r (off+i.toNat*z)
 | .addr r o,.int _ i=>match t with
  | .arr _ z _=>.addr r (o+i.toNat*z)
  | _=>.undef
 | .dO r z j k,.int _ i=>match t with
  | .arr _ z' _=>.dO r z j (k+i.toNat*z')
  | _=>.undef
 | .bG cs,.int _ i=>match t with
  | .arr _ z _=>.bG (cs.drop (i.toNat*z))
  | _=>.undef
 | _,_=>.undef
def WD(z:Nat):Ty->Prop
 | .slice z' _ _=>z=z'
 | _=>False
def XS(z:Nat)(i:Int):D->Prop
 | .own z' rows=>z'=z/\i<rows.length
 | _=>False
def S6(e:Env)(t:Ty):D->D->Prop
 | .sl z rows,.int _ i=>WD z t/\0<=i/\i<rows.length
 | .ref r,.int _ i=>0<=i/\match t with
  | .slice z _ _=>XS z i (e.o r)
  | _=>False
 | .gl _ z _ len,.int _ i=>WD z t/\0<=i/\i<len
 | .dZ _ _ z len _,.int _ i=>WD z t/\0<=i/\i<len
 | .addr _ _,.int _ i| .dO _ _ _ _,.int _ i| .bG _,.int _ i=>match t with
  | .arr n _ _=>0<=i/\i<n
  | _=>False
 | _,_=>False
def ixV(t:Ty):D->D->D
 | .agg cs,.int _ i=>match t with
  | .arr _ z a=>part a (i.toNat*z) z cs
  | _=>.undef
 | .str s,.int _ i=>.int .u8 ((s[i.toNat]?).map (·.toNat)|>.getD 0)
 | _,_=>.undef
def Tk(t:Ty):D->D->Prop
 | .agg cs,.int _ i=>match t with
  | .arr n z _=>0<=i/\i<n/\cs.length=n*z
  | _=>False
 | .str s,.int _ i=>t=.str/\0<=i/\i<s.size
 | _,_=>False
def YX(a:List FT)(f:Nat):D->D
 | .agg cs=>match a[f]? with
  |some x=>part x.agg x.off x.sz cs
  |none=>.undef
 | _=>.undef
def Oj(a:List FT)(f:Nat):D->Prop
 | .agg cs=>match a[f]? with
  |some x=>x.off+x.sz<=cs.length
  |none=>False
 | _=>False
def ldB(l:HR)(o:Nat):D->D
 | .box cs=>part l.agg o l.sz cs
 | _=>.undef
def ldW(l:HR)(i k:Nat):D->D
 | .own _ rows=>part l.agg k l.sz (rows.getD i [])
 | _=>.undef
def ldV(e:Env)(l:HR):D->D
 | .addr r o=>ldB l o (e.o r)
 | .dO r _ i k=>ldW l i k (e.o r)
 | .bG cs=>part l.agg 0 l.sz cs
 | _=>.undef
def CX(l:HR):Prop:=1<=l.sz/\(l.agg=false->l.sz=1)
def XC(l:HR)(o:Nat):D->Prop
 | .box cs=>o+l.sz<=cs.length/\CX l
 | _=>False
def XD(l:HR)(z i k:Nat):D->Prop
 | .own z' rows=>z'=z/\i<rows.length/\k+l.sz<=z/\CX l
 | _=>False
def QB(e:Env)(l:HR):D->Prop
 | .addr r o=>XC l o (e.o r)
 | .dO r z i k=>XD l z i k (e.o r)
 | .bG cs=>l.sz<=cs.length/\CX l
 | _=>False
def kI(cs:List D)(o:Nat)(xs:List D):List D:=cs.take o++xs++cs.drop (o+xs.length)

def pR:List D->List (Nat×Nat×D)->List D
 |cs,[]=>cs
 |cs,(off,_,d)::r=>pR (kI cs off d.cells) r
def sK(n:Nat):List (Nat×Nat×D)->Prop
 | []=>True
 | (off,sz,d)::r=>d.cells.length=sz/\off+sz<=n/\(∀c∈d.cells,gM c)/\sK n r
def rowsOf(z:Nat):Nat->List D->List (List D)
 | 0,_=>[]
 |n+1,cs=>cs.take z::rowsOf z n (cs.drop z)

end Go.Abs
namespace Go.Abs

variable{t:TypeId}{i:TypeInfo}{l:HR}{v x y:Value}{k c:IntKind}{n:Int}{ds cs:List D}{rows:List (List D)}{z r off len cap:Nat}{op:BinOp}{b a:D}{d e:Operand}{f:UnOp}
section
variable{P:Program}{w:World}{V:Cx}

def bQ{d:TypeDesc}(h:P.underlying t=some d)(w:World):(underlying t).run P w=.ok d w:=run_underlying h w
def nA(h:P.info? t=some i)(w:World):(typeInfo t).run P w=.ok i w:=by
 simp[typeInfo,program,h,Sem.run_bind,Sem.run]
def acY(h:P.info? t=some i)(w:World):(sizeOf t).run P w=.ok i.size w:=by
 simp[sizeOf,nA h,Sem.run_bind,Sem.run]
def XB(h:jx P t=some l):∃d i,P.underlying t=some d/\P.info? t=some i/\l=⟨PX d,i.size⟩:=by
 unfold jx at h;split at h
 ·rename_i d i g j;exact⟨d,i,g,j,by simpa using h.symm⟩
 ·cases h
def dJ(h:jx P t=some l)(w:World):(sizeOf t).run P w=.ok l.sz w:=by
 obtain⟨d,i,_,g,rfl⟩:=XB h;exact acY g w
def GW(h:jx P t=some l)(w:World):(isAgg t).run P w=.ok l.agg w:=by
 obtain⟨d,i,g,_,rfl⟩:=XB h;simp only[isAgg,Sem.run_bind,bQ g];cases d<;>simp[PX,Sem.run,pure]

def aO.fk(h:aO V v (.int k n)):v=.int k n:=by cases h;rfl
def aO.og{b:Bool}(h:aO V v (.bool b)):v=.bool b:=by cases h;rfl
def aO.tK{s:ByteArray}(h:aO V v (.str s)):v=.string s:=by cases h;rfl
theorem aO.tv(h:aO V v (.agg ds)):∃vs,v=.agg vs/\vs.size=ds.length/\∀(i:Nat) v d,vs[i]?=some v->ds[i]?=some d->aO V v d:=by
 cases h with
 |agg vs ds hl hi=>exact⟨vs,rfl,hl,hi⟩
theorem aO.FG(h:aO V v (.bD ds)):∃vs,v=.tuple vs/\vs.size=ds.length/\∀(i:Nat) v d,vs[i]?=some v->ds[i]?=some d->aO V v d:=by
 cases h with
 |bD vs ds hl hi=>exact⟨vs,rfl,hl,hi⟩
theorem aO.Du{f:FuncId}(h:aO V v (.fn f ds)):∃vs,v=.func (.func f) #[] vs/\vs.size=ds.length/\∀(i:Nat) v d,vs[i]?=some v->ds[i]?=some d->aO V v d:=by
 cases h with
 |fn f vs ds hl hi=>exact⟨vs,rfl,hl,hi⟩
theorem aO.DW(h:aO V v (.sl z rows)) :
  ∃a cap,v=.slice a rows.length cap/\rows.length<=cap/\(∀r∈rows,r.length=z)/\(∀r∈rows,∀d∈r,cE d) /\
   (a=none->rows=[]/\cap=0)/\∀g,a=some g->∀(i j:Nat) r d,rows[i]?=some r->r[j]?=some d->∃u,V.V (g.add (i*z+j))=some u/\aO V u d:=by
 cases h with
 |slnil z=>exact⟨none,0,rfl,by simp,by simp,by simp,λ_=>⟨rfl,rfl⟩,(λg h=>by cases h)⟩
 |sl z a cap rows f hl hz hk hV hR =>
  refine⟨some a,cap,rfl,hl,hz,hk,(λh=>by cases h),?_⟩;rintro g ⟨⟩ i j r d hi hj;exact⟨_,hV i j r d hi hj,hR i j r d hi hj⟩
theorem aO.sJ(h:aO V v (.bG cs)) :
  ∃a,v=.pointer (some a)/\(∀d∈cs,d.names=[])/\∀(j:Nat) d,cs[j]?=some d->∃u,V.V (a.add j)=some u/\aO V u d:=by
 cases h with
 |bG a cs f hn hV hR=>exact⟨a,rfl,hn,λj d g=>⟨_,hV j d g,hR j d g⟩⟩
theorem aO.rI(h:aO V v (.ref r)):V.S r=some v/\∃a len cap,v=.slice a len cap:=by
 cases h with
 |ref r a len cap h=>exact⟨h,a,len,cap,rfl⟩
theorem aO.ng(h:aO V v (.addr r off)):∃a,V.S r=some (.pointer (some a))/\v=.pointer (some (a.add off)):=by
 cases h with
 |addr r off a h=>exact⟨a,h,rfl⟩
theorem aO.oQ{i k:Nat}(h:aO V v (.dO r z i k)):∃a len cap,V.S r=some (.slice (some a) len cap)/\v=.pointer (some (a.add (i*z+k))):=by
 cases h with
 |dO r z i k a len cap h=>exact⟨a,len,cap,h,rfl⟩
theorem aO.pS{lo:Nat}(h:aO V v (.gl r z lo len)):∃a j L cap g,V.S r=some (.slice a L cap)/\v=.slice j len g/\(len≠0->∃b,a=some b/\j=some (b.add (lo*z)))/\len<=g/\(j=none->g=0):=by
 cases h with
 |gl r z lo len a j L cap g h h1 h2 h3=>exact⟨a,j,L,cap,g,h,rfl,h1,h2,h3⟩
theorem aO.jm(h:aO V v (.dZ r off z len cap)):∃a j g,V.S r=some (.pointer (some a))/\v=.slice j len g/\(len≠0->j=some (a.add off))/\len<=g/\(j=none->g=0)/\g=cap/\(cap≠0->j=some (a.add off)):=by
 cases h with
 |dZ r off z len cap a j h h1 h2 =>
  refine⟨a,j,cap,h,rfl,λm=>h1 (by omega),h2,?_,rfl,h1⟩;intro m;by_cases e:cap=0
  ·exact e
  ·have:=h1 e;rw[m]at this;cases this

def nY{a:Addr}(q:rows.length<=cap)(s:∀r∈rows,r.length=z)(p:∀r∈rows,∀d∈r,cE d)
  (h:∀(i j:Nat) r d,rows[i]?=some r->r[j]?=some d->∃u,V.V (a.add (i*z+j))=some u/\aO V u d):aO V (.slice (some a) rows.length cap) (.sl z rows):=
 .sl z a cap rows (λi j=>(V.V (a.add (i*z+j))).getD Go.undef) q s p
  (λi j r d g m=>by obtain⟨u,o,_⟩:=h i j r d g m;simp[o])
  (λi j r d g m=>by obtain⟨u,o,hr⟩:=h i j r d g m;simpa[o]using hr)
def qz{a:Addr}(o:∀d∈cs,d.names=[])(h:∀(j:Nat) d,cs[j]?=some d->∃u,V.V (a.add j)=some u/\aO V u d):aO V (.pointer (some a)) (.bG cs):=
 .bG a cs (λj=>(V.V (a.add j)).getD Go.undef) o
  (λj d g=>by obtain⟨u,m,_⟩:=h j d g;simp[m])
  (λj d g=>by obtain⟨u,m,hr⟩:=h j d g;simpa[m]using hr)

def wI(v:Value):aO V v (wZ v):=by
 unfold wZ;split<;>first|exact .bool _|exact .int _ _|exact .str _|exact .nil|exact .ot|exact .iZ|exact .qP|exact .undef _
def Us(v:Value):aO V v (uk v):=by
 unfold uk;split
 ·rename_i cs;refine .agg _ _ (by simp) ?_;intro i v d h g;simp only[List.getElem?_map]at g;have:cs.toList[i]?=some v:=by simpa using h
  rw[this]at g;simp at g;subst g;exact wI v
 ·rename_i vs;split
  ·rename_i j;have:vs = #[]:=by simpa using j
   subst this;exact .bD _ _ rfl (by intro i v d h;simp at h)
  ·exact .undef _
 ·exact wI _

/-! ### operators -/

def afL{m:Int}(h:sj op k c m)(w:World) :
  ∃u,(binOp op t (.int k n) (.int c m)).run P w=.ok u w/\aO V u (MQ op k n m):=by
 cases op
 case shl=>exact⟨_,by have j:¬m<0:=Int.not_lt.2 h;simp[binOp,Op.shift,j,Sem.run,pure],.int _ _⟩
 case shr=>exact⟨_,by have j:¬m<0:=Int.not_lt.2 h;simp[binOp,Op.shift,j,Sem.run,pure],.int _ _⟩
 case quo =>
  have g:=h.1;have o:=h.2;subst g;exact⟨_,by simp[binOp,Op.intDiv,o,Sem.run,pure],.int _ _⟩
 case rem =>
  have g:=h.1;have o:=h.2;subst g;exact⟨_,by simp[binOp,Op.intDiv,o,Sem.run,pure],.int _ _⟩
 all_goals
  have g:k=c:=h;subst g;first
   |exact⟨_,by simp[binOp,Op.intArith,Op.intBits,Op.intCmp,Sem.run,pure],.int _ _⟩
   |exact⟨_,by simp[binOp,Op.intArith,Op.intBits,Op.intCmp,Sem.run,pure],.bool _⟩

def run_equalIn_bool(g:P.underlying t=some .bool)(d:Nat)(p q:Bool)(w:World):(Op.equalIn (d+1) t (.bool p) (.bool q)).run P w=.ok (p==q) w:=by
 unfold Op.equalIn;simp only[Sem.run_bind,bQ g];rfl

def Z0(j:aO V x a)(o:aO V y b)(h:Jl op (fD P t) a b)(w:World) :
  ∃u,(binOp op t x y).run P w=.ok u w/\aO V u (CC op a b):=by
 cases a<;>try exact h.elim
 case int k n =>
  cases b<;>try exact h.elim
  case int k' m =>
   rw[j.fk,o.fk];exact afL h w
 case str s =>
  cases b<;>try exact h.elim
  case str s' =>
   rw[j.tK,o.tK];simp only[Jl]at h;cases op<;>simp only[Pp]at h<;>try exact h.elim
   case add =>
    refine⟨.string (s++s'),?_,.str _⟩;have:¬(((s.size+s'.size:Nat):Int)>IntKind.i64.max):=by
     simp[IntKind.max,IntKind.bits,IntKind.signed];omega
    simp only[binOp,Op.stringOp,aq this];rfl
   all_goals exact⟨_,by simp only[binOp,Op.stringOp];rfl,by simp only[CC,sop];constructor⟩
 case bool p =>
  cases b<;>try exact h.elim
  case bool q =>
   rw[j.og,o.og];obtain⟨B,g⟩:=h;have C:P.underlying t=some .bool:=by
    unfold fD at g;split at g<;>first|assumption| (exfalso;revert g;(repeat' split)<;>simp)|cases g
   have A:(Op.equal t (.bool p) (.bool q)).run P w=.ok (p==q) w:=by
    exact run_equalIn_bool C 9999 p q w
   rcases B with rfl|rfl
   ·exact⟨.bool (p==q),by simp[binOp,Sem.run_bind,A,Sem.run,pure],by simp only[CC,N8];constructor⟩
   ·exact⟨.bool (!(p==q)),by simp[binOp,Sem.run_bind,A,Sem.run,pure],by simp only[CC,N8];constructor⟩

def Z5(g:aO V x a)(h:xJ f a)(w:World) :
  ∃u,(Op.unary f x).run P w=.ok u w/\aO V u (BY f a):=by
 cases a<;>try exact h.elim
 case int k n =>
  rw[g.fk];rcases h with rfl|rfl
  ·exact⟨.int k (k.wrap (0-n)),by simp only[Op.unary,Op.intArith];rfl,.int _ _⟩
  ·exact⟨_,by simp[Op.unary,Op.intBits,Sem.run,pure];rfl,by simp only[BY];constructor⟩
 case bool b =>
  rw[g.og];simp only[xJ]at h;subst h;exact⟨.bool (!b),rfl,by simp only[BY];constructor⟩

def RQ(h:fD P t=.int k):P.underlying t=some (.int k):=by
 unfold fD at h;split at h<;>first| (cases h;assumption)|cases h| (exfalso;revert h;(repeat' split)<;>simp)
def FI(h:fD P t=.str):P.underlying t=some .string:=by
 unfold fD at h;split at h<;>first| (cases h;assumption)|cases h| (exfalso;revert h;(repeat' split)<;>simp)
def fy{n:Nat}{a:Bool}(h:fD P t=.slice z n a) :
  ∃e i,P.underlying t=some (.slice e)/\jx P e=some ⟨a,z⟩/\P.info? e=some i/\i.bytes=n/\z≠0/\∃j,i.zero=some j/\j.cells.size=z:=by
 unfold fD at h;split at h<;>try(cases h;done)
 ·rename_i e q;split at h<;>try(cases h;done)
  rename_i l i p o;split at h
  ·cases h
  ·split at h
   ·rename_i g;cases h;cases m:i.zero with
    |none=>rw[m]at g;cases g
    |some j =>
     rw[m]at g;exact⟨e,i,q,p,o,rfl,by assumption,j,m,by simpa using g⟩
   ·cases h
 ·split at h<;>try(cases h;done)
  split at h<;>cases h
 ·split at h<;>cases h
def FH{n:Nat}{a:Bool}(h:fD P t=.arr n z a):∃e,P.underlying t=some (.array n e)/\jx P e=some ⟨a,z⟩/\z≠0:=by
 unfold fD at h;split at h<;>try(cases h;done)
 ·split at h<;>try(cases h;done)
  split at h<;>try(cases h;done)
  split at h<;>cases h
 ·rename_i n' e j;split at h<;>try(cases h;done)
  rename_i l g;split at h
  ·cases h
  ·cases h;exact⟨e,j,g,by assumption⟩
 ·split at h<;>cases h
def D7{l:List FT}(h:fD P t=.struct l):∃g,P.underlying t=some (.struct g)/\tC P g.toList=some l:=by
 unfold fD at h;split at h<;>try(cases h;done)
 ·split at h<;>try(cases h;done)
  split at h<;>try(cases h;done)
  split at h<;>cases h
 ·split at h<;>try(cases h;done)
  split at h<;>cases h
 ·rename_i g j;split at h<;>try(cases h;done)
  cases h;exact⟨g,j,by assumption⟩
theorem Ds:∀{m:List Field} {l:List FT},tC P m=some l->l.length=m.length/\∀(i:Nat) f,m[i]?=some f->∃ly,jx P f.type=some ly/\ly.sz≠0/\l[i]?=some ⟨f.offset,ly.sz,ly.agg⟩
 | [],l,h=>by simp only[tC,qN]at h;subst h;exact⟨rfl,by intro i f h;simp at h⟩
 |f::r,l,h=>by
  unfold tC at h;split at h<;>try(cases h;done)
  rename_i ly fs' q hr;split at h
  ·cases h
  ·rename_i s;cases h;obtain⟨o,p⟩:=Ds hr;refine⟨by simp[o],?_⟩;intro i g j;cases i with
   |zero=>simp at j;subst j;exact⟨ly,q,s,rfl⟩
   |succ i=>simp at j |-;exact p i g j

def Uz{s d:TypeId}(m:aO V x a)(h:JJ (fD P s) (fD P d) a)(w:World) :
  ∃u,(convert s d x).run P w=.ok u w/\aO V u (NY (fD P s) (fD P d) a):=by
 cases a<;>try exact h.elim
 case int k n =>
  rw[m.fk];obtain⟨⟨o,g⟩,⟨k'',j⟩⟩:=h;refine⟨.int o (o.wrap n),?_,by simp only[NY,g];constructor⟩;simp[convert,Sem.run_bind,bQ (RQ g),bQ (RQ j),Conv.intToInt,Sem.run,pure]
 case str b =>
  rw[m.tK];obtain⟨g,j⟩:=h;refine⟨.string b,?_,by simp only[NY,g];constructor⟩;simp[convert,Sem.run_bind,bQ (FI g),bQ (FI j),Sem.run,pure]
end
end Go.Abs
namespace Go.Abs
open List

def add_add(a:Addr)(i j:Nat):(a.add i).add j=a.add (i+j):=by
 unfold Addr.add;by_cases b:i=0<;>by_cases e:j=0<;>simp[b,e,Nat.add_assoc]
def iQ(b o j:Nat):(⟨b,o,none⟩:Addr).add j=⟨b,o+j,none⟩:=by
 unfold Addr.add;split
 ·rename_i h;simp[h]
 ·rfl
variable{E:TypeId}{c:Array Value}{d:Nat×Nat}
def nP(w:World)(b i:Nat)(h:w.heap[b]?=some (.cells c E d)):w.cell? ⟨b,i,none⟩=c[i]?:=by
 simp[World.cell?,h]

variable{l:HR}{t:TypeId}{a:Addr}{cs ds:List D}{x i:Value}{o f z m:Nat}{n:Int}{k:IntKind}{ea:Bool}
section
variable{P:Program}{w:World}{V:Cx}

theorem LN(e:jx P t=some l)(g:l.agg=false->l.sz=1)(cs:List Value)(b:cs.length=l.sz)
  (h:∀(j:Nat) v,cs[j]?=some v->w.cell? (a.add j)=some v) :
  (Instr.loadAt t (.pointer (some a))).run P w=.ok (if l.agg then .agg cs.toArray else cs.headD Go.undef) w:=by
 simp only[Instr.loadAt,Instr.sureAddr,loadVar,Sem.run_bind,GW e];cases p:l.agg with
 |false =>
  have q:=g p
  match cs,b.trans q with
  | [v],_ =>
   have:=h 0 v rfl;simp[load,Sem.run,pure,Addr.add]at this |-;simp[Sem.bind,Sem.run,this]
 |true =>
  have hr:=run_loadCells_list (P:=P) (w:=w) a cs h;rw[b]at hr;simp[Sem.run_bind,dJ e,hr,Sem.run,pure]

theorem KR{n:Nat}(h:1<=n):((cs.take n).headD .undef)=cs.headD .undef:=by
 cases cs with
 |nil=>simp
 |cons a t=>cases n with
  |zero=>omega
  |succ n=>simp

theorem Pd(p:l.agg=false->l.sz=1)(h0:1<=l.sz){vs:List Value}(g:vs.length=l.sz)(b:ds.length=l.sz)
  (h:∀(j:Nat) v d,vs[j]?=some v->ds[j]?=some d->aO V v d) :
  aO V (if l.agg then .agg vs.toArray else vs.headD Go.undef) (if l.agg then .agg ds else ds.headD .undef):=by
 cases q:l.agg with
 |true =>
  refine .agg _ _ (by simp[g,b]) ?_;intro i v d r s;exact h i v d (by simpa using r) s
 |false =>
  have e:=p q
  match vs,ds,g.trans e,b.trans e with
  | [v],[d],_,_=>exact h 0 v d rfl rfl

def Rw(y:∀a v,V.V a=some v->w.cell? a=some v)(B:jx P t=some l)(D:aO V x (.bG cs))
  (hs:l.sz<=cs.length) (h:1<=l.sz) (p:l.agg=false->l.sz=1) :
  ∃u,(Instr.loadAt t x).run P w=.ok u w/\aO V u (part l.agg 0 l.sz cs):=by
 obtain⟨a,rfl,hn,A⟩:=D.sJ
 let f:Nat->Value:=λj=>(V.V (a.add j)).getD Go.undef
 have s:∀(j:Nat) d,cs[j]?=some d->V.V (a.add j)=some (f j)/\aO V (f j) d:=by
  intro j d b;obtain⟨u,C,hr⟩:=A j d b;simp only[f,C,Option.getD_some];exact⟨trivial,hr⟩
 have e:((range l.sz).map f).length=l.sz:=by simp
 refine⟨_,LN B p ((range l.sz).map f) e ?_,?_⟩
 ·intro j v b;simp only[getElem?_map]at b;rcases dN j l.sz with hlt|hge
  ·rw[getElem?_range hlt]at b;simp at b;subst b;exact y _ _ (s j cs[j] (gF (by omega))).1
  ·rw[getElem?_eq_none (by simpa using hge)]at b;simp at b
 ·have:=Pd (V:=V) p h (vs:=(range l.sz).map f) (ds:=cs.take l.sz) e (by simp;omega) (by
   intro j v d g r;rcases dN j l.sz with hlt|hge
   ·simp only[getElem?_map,getElem?_range hlt,Option.map_some,qN]at g;rw[getElem?_take_of_lt hlt]at r;subst g;exact(s j d r).2
   ·rw[getElem?_eq_none (by simpa using hge)]at g;cases g)
  unfold part;simp only[drop_zero];cases q:l.agg with
  |true=>simpa[q]using this
  |false =>
   rw[q]at this;simp only[Bool.false_eq_true,if_false]at this |-;rw[KR h]at this;exact this

def BU{l:List FT}(u:fD P t=.struct l)(q:f<l.length) :
  (Instr.fieldAt t (.pointer (some a)) f).run P w=.ok (.pointer (some (a.add (((l[f]?).map (·.off)).getD 0)))) w:=by
 obtain⟨g,v,e⟩:=D7 u;obtain⟨s,r⟩:=Ds e;have b:f<g.size:=by simpa[s]using q
 obtain⟨ly,h,j,p⟩:=r f g[f] (by simp[b]);simp[Instr.fieldAt,Sem.run_bind,bQ v,b,Instr.sureAddr,fieldPlace,dJ h,j,p,Sem.run,pure]

def afK{l:List FT}(q:fD P t=.struct l)(h:f<l.length)(r:aO V x (.bG cs)) :
  ∃u,(Instr.fieldAt t x f).run P w=.ok u w/\aO V u (.bG (cs.drop (((l[f]?).map (·.off)).getD 0))):=by
 obtain⟨a,rfl,p,e⟩:=r.sJ;refine⟨_,BU q h,qz (λd g=>p d (mem_of_mem_drop g)) ?_⟩;intro j d b;rw[getElem?_drop]at b;rw[add_add];exact e _ d b

theorem UB(j:jx P t=some l){vs:Array Value}(hn:vs.size=ds.length)
  (h:∀(i:Nat) v d,vs[i]?=some v->ds[i]?=some d->aO V v d) {off:Nat} (ho:off+l.sz<=ds.length) (h0:1<=l.sz) :
  ∃u,(Go.part t vs off).run P w=.ok u w/\aO V u (part l.agg off l.sz ds):=by
 simp only[Go.part,Sem.run_bind,GW j,part];cases ha:l.agg with
 |true =>
  refine⟨.agg (vs.extract off (off+l.sz)),by simp[Sem.run_bind,dJ j,Sem.run,pure],.agg _ _ (by simp;omega) ?_⟩;intro i v d g e;rcases dN i l.sz with b|hge
  ·rw[getElem?_take_of_lt b,getElem?_drop]at e;refine h (off+i) v d ?_ e;rw[Array.getElem?_extract]at g;split at g
   ·simpa using g
   ·cases g
  ·rw[getElem?_eq_none (by simp;omega)]at e;cases e
 |false =>
  have b:off<vs.size:=by omega
  refine⟨vs[off],by simp[b,Sem.run,pure],?_⟩;have e:(ds.drop off).headD .undef=ds[off]'(by omega):=by
   rw[drop_eq_getElem_cons (by omega)];rfl
  rw[aq (by simp),e];exact h off _ _ (by simp[b]) (gF (by omega))

def Z2{l:List FT}(B:fD P t=.struct l)(D:aO V x (.agg ds))(h:Oj l f (.agg ds)) :
  ∃u,(Instr.field t x f).run P w=.ok u w/\aO V u (YX l f (.agg ds)):=by
 obtain⟨p,C,j⟩:=D7 B;obtain⟨y,v⟩:=Ds j;obtain⟨vs,rfl,A,s⟩:=D.tv;simp only[Oj]at h;split at h
 ·rename_i ft b;have e:f<p.size:=by
   have:=(ia.1 b).1;simpa[y]using this
  obtain⟨ly,r,h2,q⟩:=v f p[f] (by simp[e]);rw[b]at q;cases q;obtain⟨u,hr,g⟩:=UB (w:=w) r A s h (by omega);refine⟨u,?_,by simp only[YX,b];exact g⟩;simp[Instr.field,Sem.run_bind,bQ C,e,asAgg,Sem.run,pure,hr]
 ·exact h.elim

theorem run_indexAt_slice(B:fD P t=.slice z f ea){rows:List (List D)}
  (F:aO V x (.sl z rows)) (y:aO V i (.int k n)) (s:0<=n) (p:n<rows.length) :
  ∃u,(Instr.indexAt t x i).run P w=.ok u w/\aO V u (.bG (rows.getD n.toNat [])):=by
 obtain⟨e,inf,C,A,hin,hb,hz,_⟩:=fy B;obtain⟨a,cap,rfl,hcap,hrl,h,g,v⟩:=F.DW;rw[y.fk];cases a with
 |none =>
  have:=(g rfl).1;subst this;simp at p;omega
 |some ad =>
  refine⟨.pointer (some (ad.add (n.toNat*z))),?_,qz (λd q=>by
   have b:n.toNat<rows.length:=by omega
   have:rows.getD n.toNat []=rows[n.toNat]:=by simp[getD,gF b]
   rw[this]at q
   exact(h _ (dH b) d q).2) ?_⟩
  ·simp[Instr.indexAt,Sem.run_bind,asIntOf,bQ C,s,p,dJ A,Sem.run,pure]
  ·intro j d r;have b:n.toNat<rows.length:=by omega
   rw[add_add];have hr:rows[n.toNat]?=some rows[n.toNat]:=gF b;have:rows.getD n.toNat []=rows[n.toNat]:=by simp[getD,hr]
   rw[this]at r;exact v ad rfl n.toNat j _ d hr r

def ux(p:fD P t=.arr m z ea)
  (h:aO V i (.int k n)) (b:0<=n) (g:n<m) :
  (Instr.indexAt t (.pointer (some a)) i).run P w=.ok (.pointer (some (a.add (n.toNat*z)))) w:=by
 obtain⟨e,q,j,hz⟩:=FH p;rw[h.fk];simp[Instr.indexAt,Sem.run_bind,asIntOf,bQ q,b,g,dJ j,Instr.sureAddr,Sem.run,pure]

def Nv(y:fD P t=.arr m z ea)
  (B:aO V x (.agg ds)) (s:aO V i (.int k n)) (j:0<=n) (p:n<m) (r:ds.length=m*z) :
  ∃u,(Instr.index t x i).run P w=.ok u w/\aO V u (part ea (n.toNat*z) z ds):=by
 obtain⟨e,A,h,C⟩:=FH y;obtain⟨vs,rfl,v,q⟩:=B.tv;rw[s.fk];have g:n.toNat*z+z<=ds.length:=by
  rw[r,<-Nat.succ_mul];exact pH z (by omega)
 obtain⟨u,hr,b⟩:=UB (P:=P) (w:=w) h v q g (by simpa using Nat.one_le_iff_ne_zero.2 C);refine⟨u,?_,b⟩;simp[Instr.index,Sem.run_bind,asIntOf,bQ A,j,p,dJ h,hr,Sem.run,pure]

def Nw(h:fD P t=.str){s:ByteArray}
  (j:aO V x (.str s)) (g:aO V i (.int k n)) (e:0<=n) (h1:n<s.size) :
  ∃u,(Instr.index t x i).run P w=.ok u w/\aO V u (.int .u8 ((s[n.toNat]?).map (·.toNat)|>.getD 0)):=by
 rw[j.tK,g.fk];have b:n.toNat<s.size:=by omega
 refine⟨.int .u8 (s[n.toNat]'b).toNat,?_,?_⟩
 ·simp[Instr.index,Sem.run_bind,asIntOf,bQ (FI h),e,b,Sem.run,pure]
 ·simp[b];exact .int _ _

def Fq(A:jx P t=some l)(y:∀(j:Nat) d,cs[j]?=some d->∃u,w.cell? (a.add j)=some u/\aO V u d)
  (hs:o+l.sz<=cs.length) (h:1<=l.sz) (p:l.agg=false->l.sz=1) :
  ∃u,(Instr.loadAt t (.pointer (some (a.add o)))).run P w=.ok u w/\aO V u (part l.agg o l.sz cs):=by
 let f:Nat->Value:=λj=>(w.cell? (a.add j)).getD Go.undef
 have s:∀(j:Nat) d,cs[j]?=some d->w.cell? (a.add j)=some (f j)/\aO V (f j) d:=by
  intro j d b;obtain⟨u,B,hr⟩:=y j d b;simp only[f,B,Option.getD_some];exact⟨trivial,hr⟩
 have e:((range l.sz).map λj=>f (o+j)).length=l.sz:=by simp
 refine⟨_,LN A p ((range l.sz).map λj=>f (o+j)) e ?_,?_⟩
 ·intro j v b;simp only[getElem?_map]at b;rcases dN j l.sz with hlt|hge
  ·rw[getElem?_range hlt]at b;simp at b;subst b;rw[add_add];exact(s _ cs[o+j] (gF (by omega))).1
  ·rw[getElem?_eq_none (by simpa using hge)]at b;simp at b
 ·have:=Pd (V:=V) p h (vs:=(range l.sz).map λj=>f (o+j)) (ds:=(cs.drop o).take l.sz) e (by simp;omega) (by
   intro j v d g r;rcases dN j l.sz with hlt|hge
   ·simp only[getElem?_map,getElem?_range hlt,Option.map_some,qN]at g;rw[getElem?_take_of_lt hlt,getElem?_drop]at r;subst g;exact(s _ d r).2
   ·rw[getElem?_eq_none (by simpa using hge)]at g;cases g)
  unfold part;cases q:l.agg with
  |true=>simpa[q]using this
  |false =>
   rw[q]at this;simp only[Bool.false_eq_true,if_false]at this |-;rw[KR h]at this;exact this

end
end Go.Abs
namespace Go.Abs
open List

theorem AR:∀{a b x y:List D},a.length=b.length->eZ (a++x) (b++y)=(eZ a b&&eZ x y)
 | [],[],x,y,_=>by simp[eZ]
 | [],_::_,_,_,h=>by simp at h
 | _::_,[],_,_,h=>by simp at h
 |a::as,b::bs,x,y,h=>by simp[eZ,AR (a:=as) (b:=bs) (by simpa using h),Bool.and_assoc]
theorem uP:∀{f rs:List xL} {x y:List D},gS (f++rs) x y->gS f (x.take f.length) (y.take f.length)/\gS rs (x.drop f.length) (y.drop f.length)
 | [],rs,x,y,h=>by simpa[gS]using h
 |l::f,rs,[],y,h=>by simp[gS]at h
 |l::f,rs,a::x,[],h=>by simp[gS]at h
 |l::f,rs,a::x,b::y,h=>by
  simp only[cons_append,gS]at h;obtain⟨g,i⟩:=uP h.2;simp[gS,h.1,g,i]
theorem ry:∀{f:List xL} {x y:List D},gS f x y->x.length=f.length/\y.length=f.length
 | [],[],[],_=>⟨rfl,rfl⟩
 | [],[],_::_,h=>h.elim
 | [],_::_,_,h=>h.elim
 | _::_,[],_,h=>h.elim
 | _::_,_::_,[],h=>h.elim
 |l::f,a::x,b::y,h=>by
  obtain⟨g,i⟩:=ry h.2;simp[g,i]

variable{off:Nat}{t:TypeId}{b a:D}{y x:Value}{op:BinOp}{c:List xL}{d e:Operand}
section
variable{P:Program}{w:World}{V:Cx}

def pU(a:Bool)(off sz:Nat)(vs:Array Value):Value:=if a then .agg (vs.extract off (off+sz))else(vs[off]?).getD Go.undef
theorem Cr{l:HR}(g:jx P t=some l)(vs:Array Value)(ho:off+l.sz<=vs.size)(h0:1<=l.sz):(Go.part t vs off).run P w=.ok (pU l.agg off l.sz vs) w:=by
 simp only[Go.part,Sem.run_bind,GW g,pU];cases ha:l.agg with
 |true=>simp[Sem.run_bind,dJ g,Sem.run,pure]
 |false =>
  have f:off<vs.size:=by omega
  simp[f,Sem.run,pure]

def uB(V:Cx)(vs:Array Value)(off:Nat)(ds:List D):Prop:=off+ds.length<=vs.size/\∀(j:Nat) d,ds[j]?=some d->∃u,vs[off+j]?=some u/\aO V u d
def uB.sub{vs:Array Value}{ds:List D}(h:uB V vs off ds)(k n:Nat)(hn:k+n<=ds.length):uB V vs (off+k) ((ds.drop k).take n):=by
 refine⟨by have:=h.1;simp;omega,?_⟩;intro j d f;have g:j<n:=by have:=(ia.1 f).1;simp at this;omega
 rw[getElem?_take_of_lt g,getElem?_drop]at f;obtain⟨u,i,hr⟩:=h.2 _ d f;exact⟨u,by rw[Nat.add_assoc];exact i,hr⟩

def ag9(P:Program)(l:xL)(t:TypeId):Prop:=
 match l with
 | .int=>∃k,P.underlying t=some (.int k)
 | .bool=>P.underlying t=some .bool
 | .str=>P.underlying t=some .string
def aeL{X:Array Value}{o:Nat}{cs:List D}(f:uB V X o cs)(sz:Nat)(hc:cs.length=sz):uB V (X.extract o (o+sz)) 0 cs:=by
 refine⟨by have:=f.1;simp;omega,?_⟩;intro j d g;have hlt:=(ia.1 g).1;obtain⟨u,h,hr⟩:=f.2 j d g;refine⟨u,?_,hr⟩;rw[Array.getElem?_extract];rw[au (by have:=f.1;omega)];simpa using h
def acX{l:xL}{k:Nat}(g:aO V x a)(i:aO V y b)(h:Ks l a b)
  (f:ag9 P l t) :
  (Op.equalIn (k+1) t x y).run P w=.ok (AQ a b) w:=by
 cases l<;>cases a<;>(try exact h.elim)<;>cases b<;>(try exact h.elim)
 ·have e:_=_:=h;subst e;rw[g.fk,i.fk];obtain⟨k',j⟩:=f;unfold Op.equalIn;simp[Sem.run_bind,bQ j,AQ,Sem.run,pure]
 ·rw[g.og,i.og];unfold Op.equalIn;simp[Sem.run_bind,bQ f,AQ,Sem.run,pure]
 ·rw[g.tK,i.tK];unfold Op.equalIn;simp[Sem.run_bind,bQ f,AQ,Sem.run,pure]

theorem Ez(f:List xL):∀n,(replicate n f).flatten.length=n*f.length
 | 0=>by simp
 |n+1=>by simp[replicate_succ,Ez f n,Nat.succ_mul,Nat.add_comm]
theorem Kt:∀(k:Nat)(t:TypeId)(f:List xL),lW P k t=some f->1<=f.length
 | 0,t,f,h=>by simp[lW]at h
 |k+1,t,f,h=>by
  unfold lW at h;split at h<;>try(cases h;done)
  ·cases h;simp
  ·cases h;simp
  ·cases h;simp
  ·split at h
   ·cases h
   ·split at h<;>try(cases h;done)
    split at h<;>try(cases h;done)
    rename_i g;cases h;omega
  ·split at h
   ·cases h
   ·split at h<;>try(cases h;done)
    split at h<;>try(cases h;done)
    rename_i g;cases h;rw[Ez];omega
def VJ(m:Nat)(X Y:Array Value)(f:Field)(_s:Option Bool×Unit):Sem (ForInStep (Option Bool×Unit)):=
 if f.name ≠ "_" then do
  let x <-Go.part f.type X f.offset
  let y <-Go.part f.type Y f.offset
  let b <-Op.equalIn m f.type x y
  if(!b)=true then Sem.pure (ForInStep.done (some false,()))else Sem.pure (ForInStep.yield (none,()))
 else Sem.pure (ForInStep.yield (none,()))
def Qn(m:Nat)(X Y:Array Value)(e:TypeId)(sz:Nat)(i:Nat)(_s:Option Bool×Unit):Sem (ForInStep (Option Bool×Unit)):=do
 let x <-Go.part e X (i*sz)
 let y <-Go.part e Y (i*sz)
 let b <-Op.equalIn m e x y
 if(!b)=true then Sem.pure (ForInStep.done (some false,()))else Sem.pure (ForInStep.yield (none,()))
theorem UA{k m:Nat}{X Y:Array Value} (H:∀(t:TypeId)(n:List xL),lW P k t=some n->∀(xs K:Array Value)(I J:Nat)(as bs:List D),uB V xs I as->uB V K J bs->gS n as bs ->
  ∃l,jx P t=some l/\l.sz=n.length/\(Op.equalIn m t (pU l.agg I l.sz xs) (pU l.agg J l.sz K)).run P w=.ok (eZ as bs) w) :
  ∀(F:List Field)(off:Nat)(n:List xL)(as bs:List D),yd (lW P k) F off=some n->uB V X off as->uB V Y off bs->gS n as bs ->
   (forIn F ((none,()):Option Bool×Unit) (VJ m X Y)).run P w=.ok (if eZ as bs then(none,())else(some false,())) w
 | [],off,n,as,bs,h,hx,hy,hok=>by
  simp only[yd,qN]at h;subst h
  match as,bs,hok with
  | [],[],_=>simp[eZ,Sem.run,pure]
 |f::r,off,n,as,bs,h,hx,hy,hok=>by
  unfold yd at h;split at h<;>try(cases h;done)
  rename_i B;simp only[Bool.and_eq_true,bne_iff_ne,ne_eq,fE]at B;split at h<;>try(cases h;done)
  rename_i g q;cases p:yd (lW P k) r (off+g.length)with
  |none=>rw[p]at h;cases h
  |some rs =>
   rw[p]at h;cases h;have j:=ry hok;obtain⟨o1,o2⟩:=uP hok;have hxl:g.length<=as.length:=by rw[j.1];simp
   have hyl:g.length<=bs.length:=by rw[j.2];simp
   have u:=hx.sub 0 g.length (by omega);have z:=hy.sub 0 g.length (by omega);simp only[Nat.add_zero,drop_zero]at u z;obtain⟨l,i,C,s⟩:=H f.type g q X Y off off _ _ u z o1;have v:=hx.sub g.length (as.length-g.length) (by omega);have A:=hy.sub g.length (bs.length-g.length) (by omega);rw[take_of_length_le (by simp)]at v A;have E:=UA H r (off+g.length) rs _ _ p v A o2;have G:1<=l.sz:=by rw[C];exact Kt k f.type g q
   have o:eZ as bs=(eZ (as.take g.length) (bs.take g.length)&&eZ (as.drop g.length) (bs.drop g.length)):=by
    rw[<-AR (by simp;omega),n5,n5]
   have L:(Go.part f.type X f.offset).run P w=.ok (pU l.agg off l.sz X) w:=by
    rw[B.2];exact Cr i X (by have:=hx.1;omega) G
   have M:(Go.part f.type Y f.offset).run P w=.ok (pU l.agg off l.sz Y) w:=by
    rw[B.2];exact Cr i Y (by have:=hy.1;omega) G
   rw[forIn_cons];simp only[VJ,B.1,ne_eq,not_false_eq_true,if_true,Sem.run_bind,L,M,s,Result.andThen_ok];rw[o];cases eZ (as.take g.length) (bs.take g.length)with
   |false=>simp[Sem.run,pure,Sem.pure]
   |true =>
    simp only[Bool.not_true,Bool.false_eq_true,if_false,cz];rw[<-E];rfl
theorem Pg{m:Nat}{X Y:Array Value}{e:TypeId}{f:List xL}{l:HR}(u:jx P e=some l)(g:l.sz=f.length)(v:1<=l.sz) (z:∀(xs F:Array Value)(A B:Nat)(as bs:List D),uB V xs A as->uB V F B bs->gS f as bs ->
  (Op.equalIn m e (pU l.agg A l.sz xs) (pU l.agg B l.sz F)).run P w=.ok (eZ as bs) w) :
  ∀(n i:Nat)(as bs:List D),uB V X (i*f.length) as->uB V Y (i*f.length) bs->gS (replicate n f).flatten as bs ->
   (forIn (range' i n) ((none,()):Option Bool×Unit) (Qn m X Y e l.sz)).run P w=.ok (if eZ as bs then(none,())else(some false,())) w
 | 0,i,as,bs,hx,hy,hok=>by
  match as,bs,hok with
  | [],[],_=>simp[eZ,Sem.run,pure]
 |n+1,i,as,bs,hx,hy,hok=>by
  simp only[replicate_succ,flatten_cons]at hok;have h:=ry hok;obtain⟨o1,o2⟩:=uP hok;have hxl:f.length<=as.length:=by rw[h.1];simp
  have hyl:f.length<=bs.length:=by rw[h.2];simp
  have q:=hx.sub 0 f.length (by omega);have r:=hy.sub 0 f.length (by omega);simp only[Nat.add_zero,drop_zero]at q r;have j:=z X Y _ _ _ _ q r o1;have o:=hx.sub f.length (as.length-f.length) (by omega);have p:=hy.sub f.length (bs.length-f.length) (by omega);rw[take_of_length_le (by simp)]at o p;have G:i*f.length+f.length=(i+1)*f.length:=by rw[Nat.succ_mul]
  rw[G]at o p;have s:=Pg u g v z n (i+1) _ _ o p o2;have k:eZ as bs=(eZ (as.take f.length) (bs.take f.length)&&eZ (as.drop f.length) (bs.drop f.length)):=by
   rw[<-AR (by simp;omega),n5,n5]
  have C:(Go.part e X (i*l.sz)).run P w=.ok (pU l.agg (i*l.sz) l.sz X) w:=Cr u X (by rw[g];have:=hx.1;omega) v;have E:(Go.part e Y (i*l.sz)).run P w=.ok (pU l.agg (i*l.sz) l.sz Y) w:=Cr u Y (by rw[g];have:=hy.1;omega) v;rw[g]at j C E s |-;rw[range'_succ,forIn_cons];simp only[Qn,Sem.run_bind,C,E,j,Result.andThen_ok];rw[k];cases eZ (as.take f.length) (bs.take f.length)with
  |false=>simp[Sem.run,pure,Sem.pure]
  |true =>
   simp only[Bool.not_true,Bool.false_eq_true,if_false,cz];rw[<-s];rfl
theorem wN:∀(k:Nat)(t:TypeId)(H:List xL),lW P k t=some H->∀(m:Nat),k<=m->∀(xs E:Array Value)(q s:Nat)(as bs:List D),uB V xs q as->uB V E s bs->gS H as bs ->
  ∃l,jx P t=some l/\l.sz=H.length/\(Op.equalIn m t (pU l.agg q l.sz xs) (pU l.agg s l.sz E)).run P w=.ok (eZ as bs) w
 | 0,t,H,h=>by simp[lW]at h
 |k+1,t,H,h=>by
  intro m hm xs E q s as bs F G g;obtain⟨m,rfl⟩:∃m',m=m'+1:=⟨m-1,by omega⟩
  have L:=ry g;have C:∀lf:xL,H=[lf]->jx P t=some ⟨false,1⟩->ag9 P lf t ->
    ∃l,jx P t=some l/\l.sz=H.length/\(Op.equalIn (m+1) t (pU l.agg q l.sz xs) (pU l.agg s l.sz E)).run P w=.ok (eZ as bs) w:=by
   intro lf e z Z;subst e
   match as,bs,g,F,G with
   | [a],[b],g,F,G =>
    refine⟨_,z,rfl,?_⟩;obtain⟨u,p,T⟩:=F.2 0 a rfl;obtain⟨v,hv,U⟩:=G.2 0 b rfl;simp only[pU,Bool.false_eq_true,if_false];simp only[Nat.add_zero]at p hv;rw[p,hv];rw[Option.getD_some,Option.getD_some,acX T U g.1 Z];simp[eZ]
  unfold lW at h;split at h<;>try(cases h;done)
  ·rename_i ik p z;cases h;exact C .int rfl z ⟨_,p⟩
  ·rename_i p z;cases h;exact C .bool rfl z p
  ·rename_i p z;cases h;exact C .str rfl z p
  ·-- a struct
   rename_i fs sz p z;split at h
   ·cases h
   rename_i W;split at h<;>try(cases h;done)
   rename_i f S;split at h<;>try(cases h;done)
   rename_i i;cases h;refine⟨_,z,i.1.symm,?_⟩;simp only[pU,if_true];have O:P.stoodInHeld t=false:=by
    cases e:P.stoodInHeld t with
    |false=>rfl
    |true=>simp[e]at W
   unfold Op.equalIn;simp only[Sem.run_bind,bQ p,Result.andThen_ok,program,Sem.run,O];have j:=aeL F sz (by omega);have o:=aeL G sz (by omega);generalize xs.extract q (q+sz)=X at j |-;generalize E.extract s (s+sz)=Y at o |-;simp only[Bool.false_eq_true,if_false,pure,Sem.run];have R:=UA (P:=P) (w:=w) (V:=V) (k:=k) (m:=m) (X:=X) (Y:=Y) (λt H Z xs E q s as bs F G N=>wN k t H Z m (by omega) xs E q s as bs F G N) fs.toList 0 _ as bs S j o g;have I:(forIn fs ((none,()):Option Bool×Unit) (VJ m X Y)).run P w=.ok (if eZ as bs then(none,())else(some false,())) w:=by rw[<-Array.forIn_toList];exact R
   refine(Sem.run_bind ..).trans ?_;refine(congrArg (λr=>Result.andThen r _) I).trans ?_;cases eZ as bs<;>rfl
  ·-- an array
   rename_i n e sz p z;split at h
   ·cases h
   split at h<;>try(cases h;done)
   rename_i f J;split at h<;>try(cases h;done)
   rename_i i;cases h;have hpos:=Kt k e f J;refine⟨_,z,by rw[Ez];exact i.1.symm,?_⟩;simp only[pU,if_true];unfold Op.equalIn;have B:as.length=sz/\bs.length=sz:=by rw[Ez]at L;omega
   have j:=aeL F sz (by omega);have o:=aeL G sz (by omega);generalize xs.extract q (q+sz)=X at j |-;generalize E.extract s (s+sz)=Y at o |-
   have hn:1<=n:=by
    rcases Nat.eq_zero_or_pos n with h0|h0
    ·rw[h0]at i;omega
    ·exact h0
   have K:∃l,jx P e=some l/\l.sz=f.length:=by
    have aa:=j.sub 0 f.length (by rw[Nat.zero_add,B.1,<-i.1];exact Nat.le_mul_of_pos_left _ hn);have ab:=o.sub 0 f.length (by rw[Nat.zero_add,B.2,<-i.1];exact Nat.le_mul_of_pos_left _ hn);have N:gS f ((as.drop 0).take f.length) ((bs.drop 0).take f.length):=by
     obtain⟨n',rfl⟩:∃n',n=n'+1:=⟨n-1,by omega⟩
     rw[replicate_succ,flatten_cons]at g;exact(uP g).1
    obtain⟨l,Q,h2,_⟩:=wN k e f J m (by omega) X Y _ _ _ _ aa ab N;exact⟨l,Q,h2⟩
   obtain⟨l,A,M⟩:=K
   have R:=Pg (P:=P) (w:=w) (V:=V) (m:=m) (X:=X) (Y:=Y) A M (by omega) (λxs E q s as bs F G N=>by
    obtain⟨l',Q,_,h3⟩:=wN k e f J m (by omega) xs E q s as bs F G N;rw[A]at Q;cases Q
    exact h3) n 0 as bs (by simpa using j) (by simpa using o) g
   simp only[Sem.run_bind,bQ p,Result.andThen_ok,dJ A];have I:(forIn [0:n] ((none,()):Option Bool×Unit) (Qn m X Y e l.sz)).run P w=.ok (if eZ as bs then(none,())else(some false,())) w:=by
    rw[Std.Legacy.Range.forIn_eq_forIn_range'];simpa[Std.Legacy.Range.size]using R
   refine(congrArg (λr=>Result.andThen r _) I).trans ?_;cases eZ as bs<;>rfl

def Ti(h:isIface P t=true):∃ms,P.underlying t=some (.interface ms):=by
 unfold isIface at h;split at h
 ·exact⟨_,by assumption⟩
 ·cases h
def Y9(h:Tj (fD P t)):∃e,P.underlying t=some (.pointer e):=by
 have f:fD P t=.ptr:=by
  cases e:fD P t<;>rw[e]at h<;>first|rfl|exact h.elim
 unfold fD at f;split at f<;>first|cases f|skip
 all_goals first
  |exact⟨_,by assumption⟩
  | (exfalso;revert f;(repeat' split)<;>simp)

def Wu{c:Bool}(s:aO V x a)(z:aO V y b)(h:AJ P c op t a b)(w:World) :
  ∃u,(binOp op t x y).run P w=.ok u w/\aO V u (CC op a b):=by
 have C:Jl op (fD P t) a b->∃u,(binOp op t x y).run P w=.ok u w/\aO V u (CC op a b):=λh=>Z0 s z h w;have iface:∀r:Bool,isEq op->(Op.equal t x y).run P w=.ok r w->(∃p q,x=.iface p q\/x=.nilIface)->(∃p q,y=.iface p q\/y=.nilIface)->∃u,(binOp op t x y).run P w=.ok u w/\aO V u (N8 op r):=by
  rintro r f o ⟨p,q,A⟩ ⟨p',q',B⟩;rcases f with rfl|rfl<;>rcases A with rfl|rfl<;>rcases B with rfl|rfl <;>
   first
   |exact⟨.bool r,by simp[binOp,Sem.run_bind,o,Sem.run,pure],.bool _⟩
   |exact⟨.bool (!r),by simp[binOp,Sem.run_bind,o,Sem.run,pure],.bool _⟩
 have ptr:∀r:Bool,isEq op->(Op.equal t x y).run P w=.ok r w->(∃p,x=.pointer p)->(∃p,y=.pointer p)->∃u,(binOp op t x y).run P w=.ok u w/\aO V u (N8 op r):=by
  rintro r f o ⟨p,A⟩ ⟨p',B⟩;subst A;subst B;rcases f with rfl|rfl
  ·exact⟨.bool r,by simp[binOp,Sem.run_bind,o,Sem.run,pure],.bool _⟩
  ·exact⟨.bool (!r),by simp[binOp,Sem.run_bind,o,Sem.run,pure],.bool _⟩
 have m:∀u v:Value,isIface P t=true->x=u->y=v->∀r:Bool,((u=.nilIface/\v=.nilIface/\r=true)\/(∃p q,u=.iface p q/\v=.nilIface/\r=false)\/(∃p q,u=.nilIface/\v=.iface p q/\r=false))->(Op.equal t x y).run P w=.ok r w:=by
  rintro u v g rfl rfl r hr;obtain⟨ms,N⟩:=Ti g;show(Op.equalIn (9999+1) t _ _).run P w=_;rcases hr with⟨rfl,rfl,rfl⟩| ⟨p,q,rfl,rfl,rfl⟩| ⟨p,q,rfl,rfl,rfl⟩<;>(unfold Op.equalIn;simp only[Sem.run_bind,bQ N,Result.andThen_ok];rfl)
 have k:∀u v:Option Addr,Tj (fD P t)->x=.pointer u->y=.pointer v->v=none->(Op.equal t x y).run P w=.ok u.isNone w:=by
  rintro u v g rfl rfl rfl;obtain⟨ms,N⟩:=Y9 g;show(Op.equalIn (9999+1) t _ _).run P w=_;cases u<;>(unfold Op.equalIn;simp only[Sem.run_bind,bQ N,Result.andThen_ok];rfl)
 cases a<;>cases b<;>(try exact C h)<;>(try exact h.elim)
 all_goals simp only[AJ]at h
 ·obtain⟨f,g,_⟩:=h;cases s;cases z;exact iface true f (m _ _ g rfl rfl true (.inl ⟨rfl,rfl,rfl⟩)) ⟨0,.nilIface,.inr rfl⟩ ⟨0,.nilIface,.inr rfl⟩
 ·obtain⟨f,g⟩:=h;cases s;cases z;exact iface false f (m _ _ g rfl rfl false (.inr (.inr ⟨_,_,rfl,rfl,rfl⟩))) ⟨0,.nilIface,.inr rfl⟩ ⟨_,_,.inl rfl⟩
 ·obtain⟨f,g⟩:=h;cases s;cases z;exact iface false f (m _ _ g rfl rfl false (.inr (.inl ⟨_,_,rfl,rfl,rfl⟩))) ⟨_,_,.inl rfl⟩ ⟨0,.nilIface,.inr rfl⟩
 ·obtain⟨f,g⟩:=h;cases s;cases z;exact ptr true f (k _ _ g rfl rfl rfl) ⟨_,rfl⟩ ⟨_,rfl⟩
 ·-- structs
  rename_i as bs;obtain⟨f,J,F⟩:=h;unfold yf at F;split at F
  ·rename_i W K;obtain⟨vs,rfl,U,hr⟩:=s.tv;obtain⟨H,rfl,M,L⟩:=z.tv;have E:∀(vs:Array Value)(ds:List D),vs.size=ds.length->(∀(i:Nat) v d,vs[i]?=some v->ds[i]?=some d->aO V v d)->uB V vs 0 ds:=by
    intro vs ds I O;refine⟨by omega,?_⟩;intro j d R;have G:j<vs.size:=by rw[I];exact(ia.1 R).1
    exact⟨vs[j],by simp[G],O j _ d (by simp[G]) R⟩
   obtain⟨l,I,O,Q⟩:=wN (P:=P) (w:=w) (V:=V) 9 t W K 10000 (by omega) vs H 0 0 as bs (E _ _ U hr) (E _ _ M L) F;have hlen:=ry F;have n:l.agg=true:=by simpa[Gp,I]using J
   have o:(Op.equal t (.agg vs) (.agg H)).run P w=.ok (eZ as bs) w:=by
     have T:pU l.agg 0 l.sz vs=.agg vs:=by simp[pU,n];right;omega
     have e2:pU l.agg 0 l.sz H=.agg H:=by simp[pU,n];right;omega
     rw[T,e2]at Q;exact Q
   rcases f with rfl|rfl
   ·exact⟨.bool _,by simp[binOp,Sem.run_bind,o,Sem.run,pure],.bool _⟩
   ·exact⟨.bool _,by simp[binOp,Sem.run_bind,o,Sem.run,pure],.bool _⟩
  ·exact F.elim
 ·obtain⟨f,g⟩:=h;obtain⟨S,rfl,_⟩:=s.sJ;cases z;exact ptr false f (k _ _ g rfl rfl rfl) ⟨_,rfl⟩ ⟨_,rfl⟩
 ·obtain⟨f,g⟩:=h;obtain⟨S,_,rfl⟩:=s.ng;cases z;exact ptr false f (k _ _ g rfl rfl rfl) ⟨_,rfl⟩ ⟨_,rfl⟩

def QC(h:lW P 9 t=some c)(f:Gp P t=true):P.eqGuardType P.depth t=false:=by
 unfold lW at h;unfold Gp at f;split at h<;>try(cases h;done)
 ·rename_i g;rw[g]at f;cases f
 ·rename_i g;rw[g]at f;cases f
 ·rename_i g;rw[g]at f;cases f
 ·split at h
  ·cases h
  ·rename_i i;simp only[Bool.or_eq_true,not_or,Bool.not_eq_true]at i;exact i.2
 ·split at h
  ·cases h
  ·rename_i i;simpa using i
def Rv(f:aO V x a)(g:aO V y b)(h:AJ P (isConst d||isConst e) op t a b)(w:World) :
  (eqGuard op t d e x y).run P w=.ok () w:=by
 have i:Jl op (fD P t) a b->(eqGuard op t d e x y).run P w=.ok () w:=λh=>by
  cases a<;>try exact h.elim
  all_goals(cases b<;>try exact h.elim)
  ·rw[f.og,g.og];cases op<;>simp[eqGuard,Sem.run,pure]
  ·rw[f.fk,g.fk];cases op<;>simp[eqGuard,Sem.run,pure]
  ·rw[f.tK,g.tK];cases op<;>simp[eqGuard,Sem.run,pure]
 cases a<;>cases b<;>(try exact i h)<;>(try exact h.elim)
 all_goals simp only[AJ]at h
 ·obtain⟨m,hi,o⟩:=h;cases f;cases g;clear i;rcases m with rfl|rfl<;>revert o<;>cases d<;>cases e<;>simp[isConst,eqGuard,Sem.run_bind,Sem.run,pure]
 ·cases f;cases g;cases op<;>simp[eqGuard,Sem.run,pure]
 ·cases f;cases g;cases op<;>simp[eqGuard,Sem.run,pure]
 ·cases f;cases g;cases op<;>simp[eqGuard,Sem.run,pure]
 ·obtain⟨m,j,k⟩:=h;unfold yf at k;split at k
  ·rename_i ls l;obtain⟨vs,rfl,_⟩:=f.tv;obtain⟨us,rfl,_⟩:=g.tv;have p:=QC l j;rcases m with rfl|rfl<;>simp[eqGuard,Sem.run_bind,program,p,Sem.run,pure]
  ·exact k.elim
 ·obtain⟨n,rfl,_⟩:=f.sJ;cases g;cases op<;>simp[eqGuard,Sem.run,pure]
 ·obtain⟨n,_,rfl⟩:=f.ng;cases g;cases op<;>simp[eqGuard,Sem.run,pure]
end
end Go.Abs
namespace Go.Abs
open List

def Iy(tm:Nat->Value)(s:Nat)(v:Value):Nat->Value:=λt=>if t=s then v else tm t
variable{s:Nat}
def ado{tmps:Array Value}(h:s<tmps.size)(v:Value):oY (tmps.setIfInBounds s v)=Iy (oY tmps) s v:=by
 funext t;simp only[oY,Iy,Array.getD_eq_getD_getElem?,Array.getElem?_setIfInBounds];by_cases e:s=t
 ·subst e;simp[h]
 ·simp[e,Ne.symm e]

def fT(c:Array Value)(o:Nat):List Value->Array Value
 | []=>c
 |v::r=>fT (c.setIfInBounds o v) (o+1) r
theorem fL:∀(vs:List Value)(c:Array Value)(o:Nat),(fT c o vs).size=c.size
 | [],_,_=>rfl
 |v::r,c,o=>by simp[fT,fL r]
theorem oH:∀(vs:List Value)(c:Array Value)(o j:Nat),o+vs.length<=c.size ->
  (fT c o vs)[j]?=if o<=j/\j<o+vs.length then vs[j-o]? else c[j]?
 | [],c,o,j,_=>by
  have:¬(o<=j/\j<o+([]:List Value).length):=by simp only[length_nil];omega
  simp only[fT,aq this]
 |v::r,c,o,j,h=>by
  simp only[length_cons]at h;rw[fT,oH r _ _ j (by simp;omega)];by_cases e:o+1<=j/\j<o+1+r.length
  ·rw[au e,au (by simp only[length_cons];omega)];have:j-o=(j-(o+1))+1:=by omega
   rw[this];simp
  ·rw[aq e];by_cases f:j=o
   ·subst f;have a:j<c.size:=by omega
    rw[au (by simp only[length_cons];omega)];simp[a]
   ·rw[aq (by simp only[length_cons];omega)];rw[Array.getElem?_setIfInBounds_ne (by omega)]

def iz(w:World)(b:Nat)(c:Array Value)(E:TypeId):World:={ w with heap:=w.heap.setIfInBounds b (.cells c E (0,0)) }
def HI(w:World)(b:Nat)(c:Array Value)(E:TypeId):(iz w b c E).heap.size=w.heap.size:=by simp[iz]
variable{b:Nat}{w:World}
def oD(h:b<w.heap.size)(c:Array Value)(E:TypeId):(iz w b c E).heap[b]?=some (.cells c E (0,0)):=by simp[iz,h]
variable{k:Nat}
def qJ(h:k≠b)(c:Array Value)(E:TypeId):(iz w b c E).heap[k]?=w.heap[k]?:=by
 simp[iz,Array.getElem?_setIfInBounds_ne (Ne.symm h)]
def LQ{a:Addr}(h:a.block≠b)(c:Array Value)(E:TypeId):(iz w b c E).cell? a=w.cell? a:=by
 simp[World.cell?,qJ h]
def lt_of_block{o:Obj}(h:w.heap[b]?=some o):b<w.heap.size:=(Array.getElem?_eq_some_iff.1 h).1

theorem mA{P:Program}(b o:Nat)(E:TypeId):∀(vs:List Value)(i:Nat)(c:Array Value)(w:World),w.heap[b]?=some (.cells c E (0,0))->o+i+vs.length<=c.size ->
  (∀v∈vs,v.oneCell'=true)->(storeCells ⟨b,o,none⟩ vs i).run P w=.ok () (iz w b (fT c (o+i) vs) E)
 | [],i,c,w,hb,_,_=>by
  have:iz w b c E=w:=by
   have a:=lt_of_block hb;have n:w.heap[b]=.cells c E (0,0):=by simpa[Array.getElem?_eq_getElem a]using hb
   cases w with
   |mk heap tape drawn os out =>
    simp only[iz]at *;congr 1;apply Array.ext_getElem?;intro k;rw[Array.getElem?_setIfInBounds];by_cases e:b=k
    ·subst e;rw[au rfl,au a,hb]
    ·rw[aq e]
  simp[storeCells,fT,Sem.run,pure,this]
 |v::r,i,c,w,hb,hl,h1=>by
  simp only[length_cons]at hl;have a:o+i<c.size:=by omega
  have f:w.cell? ((⟨b,o,none⟩:Addr).add i)=some c[o+i]:=by rw[iQ,nP w b _ hb];simp[a]
  have l:w.frozen? ((⟨b,o,none⟩:Addr).add i)=false:=by rw[iQ];simp[World.frozen?,hb]
  have h:=h1 v (by simp);have j:w.setCell ((⟨b,o,none⟩:Addr).add i) v=iz w b (c.setIfInBounds (o+i) v) E:=by
   rw[iQ];have g:=lt_of_block hb;have n:w.heap[b]=.cells c E (0,0):=by simpa[Array.getElem?_eq_getElem g]using hb
   simp only[World.setCell,iz];congr 1;apply Array.ext_getElem?;intro k;rw[Array.getElem?_setIfInBounds,Array.getElem?_modify];by_cases e:b=k
   ·subst e;rw[au rfl,au rfl,au g,hb];simp
   ·rw[aq e,aq e]
  have m:(store ((⟨b,o,none⟩:Addr).add i) v).run P w=.ok () (iz w b (c.setIfInBounds (o+i) v) E):=by
   rw[<-j];simp only[store];cases v<;>first| (simp[Value.oneCell']at h;done)|simp[Sem.run,f,l]
  have q:=mA (P:=P) b o E r (i+1) (c.setIfInBounds (o+i) v) (iz w b (c.setIfInBounds (o+i) v) E) (oD (lt_of_block hb) _ _)
   (by simp;omega) (λx p=>h1 x (by simp[p]))
  simp only[storeCells,Sem.run_bind,m];have e:iz (iz w b (c.setIfInBounds (o+i) v) E) b (fT (c.setIfInBounds (o+i) v) (o+(i+1)) r) E=iz w b (fT c (o+i) (v::r)) E:=by
   simp[iz,fT,Nat.add_assoc]
  rw[<-e,<-q];rfl


variable{v:Value}{V:Cx}{d:D}
def Fm(h:aO V v d)(a:gM d):v.oneCell'=true/\v.cells = #[v]:=by
 cases h<;>first|exact a.elim|exact⟨rfl,rfl⟩
def wJ(h:aO V v d)(g:∀c∈d.cells,gM c) :
  v.cells.size=d.cells.length/\(∀x∈v.cells.toList,x.oneCell'=true)/\∀(j:Nat) u e,v.cells[j]?=some u->d.cells[j]?=some e->aO V u e:=by
 by_cases m:∃cs,d=.agg cs
 ·obtain⟨cs,rfl⟩:=m;obtain⟨vs,rfl,n,hr⟩:=h.tv;refine⟨n,?_,hr⟩;intro x A;obtain⟨i,z⟩:=mem_iff_getElem?.1 A;have a:vs[i]?=some x:=by simpa[Value.cells]using z
  have f:i<cs.length:=by rw[<-n];exact(Array.getElem?_eq_some_iff.1 a).1
  exact(Fm (hr i x _ a (gF f)) (g _ (dH f))).1
 ·have y:d.cells=[d]:=by cases d<;>first|rfl|exact(m ⟨_,rfl⟩).elim
  rw[y]at g |-;obtain⟨q,t⟩:=Fm h (g d (by simp));rw[t];refine⟨by simp,by simp[q],?_⟩;intro j u e p l;cases j with
  |zero=>simp at p l;subst p;subst l;exact h
  |succ j=>simp at l
variable{cs xs:List D}{o:Nat}
def lI(h:o+xs.length<=cs.length):(kI cs o xs).length=cs.length:=by simp[kI];omega
def FU(h:o+xs.length<=cs.length)(j:Nat):(kI cs o xs)[j]?=if o<=j/\j<o+xs.length then xs[j-o]? else cs[j]?:=by
 unfold kI;have c:(cs.take o).length=o:=by simp;omega
 by_cases a:j<o
 ·rw[aq (by omega),dS,getElem?_append_left (by omega),getElem?_take_of_lt a]
 ·rw[dS,getElem?_append_right (by omega),c];by_cases h2:j<o+xs.length
  ·rw[au (by omega),getElem?_append_left (by omega)]
  ·rw[aq (by omega),getElem?_append_right (by omega),getElem?_drop];congr 1;omega


variable{r:Nat}{α:Type}
section
variable{w0 w w':World}{l0:Nat->Option Nat}{G:Nat->Option (Nat×Nat)}{S0:Nat->Option Value}{lev lev' own own':Nat->Option Nat}{S S':Nat->Option Value}{env env':Env}{tm tm':Nat->Value}{B:Nat}

def n8.keep(h:n8 B G w lev own S r d)(J:rW w lev w' lev')(x:∀s,(s=r\/s∈d.names)->∀u,S s=some u->S' s=some u)(l:d=.undef->S' r=none)
  (I:∀b,own b=some r->lev b=some 0->w'.heap[b]?=w.heap[b]?/\lev' b=lev b/\own' b=own b):n8 B G w' lev' own' S' r d:=by
 cases d<;>try exact h.elim
 case undef=>exact l rfl
 case box cs =>
  obtain⟨b,o,c,E,f,g,A,n,p,q,t⟩:=h;obtain⟨k1,k2,k3⟩:=I b p n;refine⟨b,o,c,E,x r (.inl rfl) _ f,k1.trans g,A,k2.trans n,k3.trans p,q,?_⟩;intro j u e l C;refine(t j u e l C).iL J ?_;intro s y;exact x s (.inr (by simp only[D.names];exact fZ.2 ⟨e,fC C,y⟩))
 case own z rows =>
  rcases h with⟨a,f,g⟩| ⟨b,c,E,cap,f,g,A,n,p,q,t,h8,h9,h10⟩
  ·exact .inl ⟨a,x r (.inl rfl) _ f,g⟩
  ·obtain⟨k1,k2,k3⟩:=I b h8 t;refine .inr ⟨b,c,E,cap,x r (.inl rfl) _ f,k1.trans g,A,n,p,q,k2.trans t,k3.trans h8,h9,?_⟩;intro i j m d F H;obtain⟨u,l,hr⟩:=h10 i j m d F H;refine⟨u,l,hr.iL J ?_⟩;intro s y;rw[(q m (fC F) d (fC H)).2]at y;cases y

def n8.live(h:n8 B G w lev own S r d)(f:d≠.undef):∃v,S r=some v:=by
 cases d<;>try exact h.elim
 case undef=>exact(f rfl).elim
 case box cs=>obtain⟨b,o,c,E,e,_⟩:=h;exact⟨_,e⟩
 case own z rows =>
  rcases h with⟨a,e,h2⟩| ⟨b,c,E,cap,e,_⟩
  ·exact⟨_,e⟩
  ·exact⟨_,e⟩
def Inv.fresh(h:Inv w0 l0 G S0 w lev own S env tm)(hr:env.o r=.undef):S r=none:=by
 have:=h.objs r;rw[hr]at this;exact this

def Inv.put(h:Inv w0 l0 G S0 w lev own S env tm)(hr:aO (cx w lev S) v d):Inv w0 l0 G S0 w lev own S (cQ env s d) (Iy tm s v) where
 os:=h.os
 tape:=h.tape
 output:=h.output
 size:=h.size
 old:=h.old
 part:=h.part
 priv:=h.priv
 mT:=h.mT
 VH:=h.VH
 rP:=λt=>by
  by_cases e:t=s
  ·subst e;rw[PC];simpa[Iy]using hr
  ·rw[wQ e];simpa[Iy,e]using h.rP t
 objs:=h.objs

def lP{α:Type}(f:Nat->Option α)(b:Nat)(x:Option α):Nat->Option α:=λk=>if k=b then x else f k
def fc(f:Nat->Option α)(b:Nat)(x:Option α):lP f b x b=x:=by simp[lP]
def gX(f:Nat->Option α)(x:Option α)(h:k≠b):lP f b x k=f k:=by simp[lP,h]

def Inv.kill(h:Inv w0 l0 G S0 w lev own S env tm)(r:Nat):Inv w0 l0 G S0 w lev own (lP S r none) (nr r env) tm where
 os:=h.os
 tape:=h.tape
 output:=h.output
 size:=h.size
 old:=h.old
 part:=h.part
 priv:=h.priv
 mT:=h.mT
 VH:=λi I a=>by
  simp only[nr]at a;by_cases e:i=r
  ·rw[au e]at a;exact(a rfl).elim
  ·rw[aq e]at a;rw[gX _ _ e];refine h.VH i I ?_;intro g;rw[g]at a;exact a rfl
 rP:=λs=>by
  simp only[nr];refine((h.rP s).ag3 r).iL (.refl _ _) ?_;intro k J u g;rw[gX _ _ (zo r _ k J).2];exact g
 objs:=λk=>by
  by_cases e:k=r
  ·subst e;simp only[nr,if_true];exact fc _ _ _
  ·simp only[nr,e,if_false];have l:=h.objs k;have f:n8 w0.heap.size G w lev own S k ((env.o k).kill r):=by
    cases m:env.o k<;>rw[m]at l<;>try exact l.elim
    ·exact l
    ·exact l
    ·rename_i cs;obtain⟨b,o,c,E,t,y,z,A,C,F,H⟩:=l;simp only[D.kill];refine⟨b,o,c,E,t,y,by rw[nH];simpa using z,A,C,by rw[nH];simpa using F,?_⟩;intro j u e g a;rw[nH]at a;simp only[getElem?_map]at a;cases q:cs[j]? with
     |none=>rw[q]at a;cases a
     |some x=>rw[q]at a;cases a;exact(H j u x g q).ag3 r
   refine f.keep (.refl _ _) ?_ ?_ (λ_ _ _=>⟨rfl,rfl,rfl⟩)
   ·intro s p u g;have n:s≠r:=by
     rcases p with rfl|p
     ·exact e
     ·exact(zo r _ s p).2
    rw[gX _ _ n];exact g
   ·intro m;rw[gX _ _ e];rw[m]at f;exact f

structure aii(w0:World)(l0:Nat->Option Nat)(G:Nat->Option (Nat×Nat))(w w':World)(lev':Nat->Option Nat):Prop where
 os:w'.os=w.os
 tape:w'.tape=w.tape
 output:w'.output=w.output
 size:w.heap.size<=w'.heap.size
 old:∀b,b<w0.heap.size->G b=none->w'.heap[b]?=w.heap[b]?
 part:∀b lo hi,G b=some (lo,hi)->pG w w' b lo hi
 priv:∀b m,lev' b=some m->b<w'.heap.size
 mT:∀b,b<w0.heap.size->G b=none->lev' b=l0 b
def pG.trans{b lo e:Nat}(n:pG w0 w b lo e)(p:pG w w' b lo e):pG w0 w' b lo e:=by
 obtain⟨c0,c,E,h,a2,a3,a4⟩:=n;obtain⟨c',a,E',f,i,l,m⟩:=p;rw[a2]at f;cases f;exact⟨c0,a,E,h,i,l.trans a3,λj g=>(m j g).trans (a4 j g)⟩
def pG.of_same{lo:Nat}(a:pG w0 w b lo r)(h:w'.heap[b]?=w.heap[b]?):pG w w' b lo r:=by
 obtain⟨c0,c,E,a1,a2,a3,a4⟩:=a;exact⟨c,c,E,a2,h.trans a2,rfl,λ_ _=>rfl⟩

def Inv.setObj(h:Inv w0 l0 G S0 w lev own S env tm)(f:aii w0 l0 G w w' lev')(A:rW w lev w' lev')
  (t:∀s,s≠r->S' s=S s) (j:∀u,S r=some u->S' r=some u) (c:16<=r\/env.o r≠.undef)
  (C:∀b s,s≠r->env.o s≠.undef->own b=some s->lev b=some 0->w'.heap[b]?=w.heap[b]?/\lev' b=lev b/\own' b=own b)
  (D:n8 w0.heap.size G w' lev' own' S' r d):Inv w0 l0 G S0 w' lev' own' S' (eV env r d) tm:=by
 have a:∀s u,S s=some u->S' s=some u:=by
  intro s u n;by_cases e:s=r
  ·subst e;exact j u n
  ·rw[t s e];exact n
 refine⟨⟨f.os.trans h.os.1,h.os.2⟩,f.tape.trans h.tape,f.output.trans h.output,Nat.le_trans h.size f.size,λb p l=>(f.old b p l).trans (h.old b p l),λb lo m l=>(h.part b lo m l).trans (f.part b lo m l),f.priv,f.mT,?_,?_,?_⟩
 ·intro i m z;by_cases e:i=r
  ·subst e;have q:env.o i≠.undef:=by
    rcases c with c|c
    ·omega
    ·exact c
   obtain⟨u,n⟩:=(h.objs i).live q;rw[j u n,<-n];exact h.VH i m q
  ·rw[t i e];rw[Yh e]at z;exact h.VH i m z
 ·intro s;exact(h.rP s).Ax A a
 ·intro k;by_cases e:k=r
  ·subst e;rw[aav];exact D
  ·rw[Yh e];have g:=h.objs k;by_cases x:env.o k=.undef
   ·rw[x]at g |-
    show S' k=none;rw[t k e];exact g
   ·exact g.keep A (λs _=>a s) (λy=>(x y).elim) (λb p q=>C b k e x p q)
end
end Go.Abs
namespace Go.Abs

variable{b lo r z hi j i:Nat}{E t:TypeId}{c vs:Array Value}{d:D}{l:HR}{cs:List D}{v a:Value}{rows:List (List D)}
section
variable{P:Program}{w0 w w':World}{l0:Nat->Option Nat}{G:Nat->Option (Nat×Nat)}{S0:Nat->Option Value}{lev lev' own own':Nat->Option Nat}{S S':Nat->Option Value}{env env':Env}{tm tm':Nat->Value}{B:Nat}

def Yn.mono(h:Yn G B b lo hi)(h1:lo<=r)(h2:z<=hi):Yn G B b r z:=by
 rcases h with h| ⟨l,m,hg,ha,hb⟩
 ·exact .inl h
 ·exact .inr ⟨l,m,hg,by omega,by omega⟩
def rR(g:lev b=some 0):rW w lev (iz w b c E) lev:=by
 intro a u e;have f:a.block≠b:=by
  rintro rfl;unfold vis at e;rw[g]at e;simp at e
 unfold vis at e |-;rw[LQ f];exact e
def ud(h:Inv w0 l0 G S0 w lev own S env tm)(p:w.heap[b]?=some (.cells c E (0,0)))(u:vs.size=c.size)(q:Yn G w0.heap.size b lo hi)
  (g:∀j,(j<lo\/hi<=j)->vs[j]?=c[j]?):aii w0 l0 G w (iz w b vs E) lev:=by
 refine⟨rfl,rfl,rfl,Nat.le_of_eq (HI _ _ _ _).symm,?_,?_,?_,h.mT⟩
 ·intro k hk n;refine qJ ?_ _ _;rintro rfl;rcases q with f| ⟨l,m,f,_⟩
  ·omega
  ·rw[n]at f;cases f
 ·intro k l m n;have s:=h.part k l m n;by_cases e:k=b
  ·subst e;rcases q with f| ⟨l',m',f,h1,h2⟩
   ·obtain⟨c0,_,_,o,_⟩:=s;have:=lt_of_block o;omega
   ·rw[n]at f;cases f;exact⟨c,vs,E,p,oD (lt_of_block p) _ _,u,λj hj=>g j (by omega)⟩
  ·exact s.of_same (qJ e _ _)
 ·intro k m f;rw[HI];exact h.priv k m f

def Inv.adi(h:Inv w0 l0 G S0 w lev own S env tm){off:Nat}(Q:env.o r=.box cs)(Z:jx P t=some l)
  (C:aO (cx w lev S) v d) (Y:∀c∈d.cells,gM c) (K:d.cells.length=l.sz) (hoff:off+l.sz<=cs.length) (X:aO (cx w lev S) a (.addr r off)) :
  ∃w',(Instr.storeAt t a v).run P w=.ok () w'/\Inv w0 l0 G S0 w' lev own S (eV env r (.box (kI cs off d.cells))) tm:=by
 have k:=h.objs r;rw[Q]at k;obtain⟨b,o,c,E,L,F,V,M,N,O,W⟩:=k;obtain⟨R,n,rfl⟩:=X.ng;have:R=⟨b,o,none⟩:=by simp only[cx]at n;rw[L]at n;cases n;rfl
 subst this;obtain⟨m,A,J⟩:=wJ C Y;have y:(o+off)+v.cells.toList.length<=c.size:=by simp;omega
 have g:∀j,(fT c (o+off) v.cells.toList)[j]?=if o+off<=j/\j<o+off+d.cells.length then v.cells[j-(o+off)]? else c[j]?:=by
  intro j;rw[oH _ _ _ _ y];have I:v.cells.toList.length=d.cells.length:=by simpa using m
  rw[I];simp
 refine⟨iz w b (fT c (o+off) v.cells.toList) E,?_,?_⟩
 ·have:=mA (P:=P) b (o+off) E v.cells.toList 0 c w F (by simp;omega) A;simp only[Nat.add_zero]at this;simp[Instr.storeAt,Instr.sureAddr,storeVar,Sem.run_bind,dJ Z,m,K,Sem.run,pure,iQ,this]
 have p:rW w lev (iz w b (fT c (o+off) v.cells.toList) E) lev:=rR M;refine h.setObj (ud h F (fL _ _ _) O ?_) p (λ_ _=>rfl) (λ_ h=>h) (.inr (by rw[Q];simp)) ?_ ?_
 ·intro j H;rw[g,aq (by omega)]
 ·intro T s hs _ x _;have:T≠b:=by
   rintro rfl;rw[N]at x;cases x;exact hs rfl
  exact⟨qJ this _ _,rfl,rfl⟩
 ·have D:(kI cs off d.cells).length=cs.length:=lI (by omega);refine⟨b,o,_,E,L,oD (lt_of_block F) _ _,by rw[fL,D];exact V,M,N,by rw[D];exact O,?_⟩;intro j u e q f;rw[g]at q;rw[FU (by omega)]at f;by_cases H:off<=j/\j<off+d.cells.length
  ·rw[au (by omega)]at q;rw[au H]at f;have U:o+j-(o+off)=j-off:=by omega
   rw[U]at q;exact(J _ u e q f).Ax p λ_ _ h=>h
  ·rw[aq (by omega)]at q;rw[aq H]at f;exact(W j u e q f).Ax p λ_ _ h=>h

def um{m:Nat}(hj:j<z)(hi:i<m):i*z+j<m*z:=by
 have:(i+1)*z<=m*z:=pH z hi;rw[Nat.succ_mul]at this;omega
def aeU(k:j<z)(e:b<z)(h:i*z+j=r*z+b):i=r/\j=b:=by
 have f:(i*z+j)/z=i:=by rw[Nat.mul_comm,Nat.mul_add_div (by omega),Nat.div_eq_of_lt k];rfl
 have g:(r*z+b)/z=r:=by rw[Nat.mul_comm,Nat.mul_add_div (by omega),Nat.div_eq_of_lt e];rfl
 have:i=r:=by rw[<-f,<-g,h]
 subst this;exact⟨rfl,by omega⟩

def Inv.adj(h:Inv w0 l0 G S0 w lev own S env tm){k:Nat}(he:env.o r=.own z rows)(hl:jx P t=some l)
  (N:aO (cx w lev S) v d) (hc:∀c∈d.cells,cE c) (Y:d.cells.length=l.sz) (hi:i<rows.length) (hk:k+l.sz<=z) (ha:aO (cx w lev S) a (.dO r z i k)) :
  ∃w',(Instr.storeAt t a v).run P w=.ok () w'/\Inv w0 l0 G S0 w' lev own S (eV env r (.own z (rows.set i (kI (rows.getD i []) k d.cells)))) tm:=by
 have y:=h.objs r;rw[he]at y;rcases y with⟨_,_,L⟩| ⟨b,c,E,cap,h1,h2,h3,h4,h5,h6,h7,h8,h9,h10⟩
 ·rw[L]at hi;simp at hi
 obtain⟨ad,len',cap',D,rfl⟩:=ha.oQ;have:ad=⟨b,0,none⟩:=by simp only[cx]at D;rw[h1]at D;cases D;rfl
 subst this;obtain⟨A,M,W⟩:=wJ N (λc g=>(hc c g).1);have O:rows.getD i []=rows[i]:=by simp[List.getD,hi]
 have X:rows[i].length=z:=h5 _ (dH hi);have R:(i+1)*z<=cap*z:=pH z (by omega);rw[Nat.succ_mul]at R;have J:(i*z+k)+v.cells.toList.length<=c.size:=by simp;omega
 have q:∀j,(fT c (i*z+k) v.cells.toList)[j]?=if i*z+k<=j/\j<i*z+k+d.cells.length then v.cells[j-(i*z+k)]? else c[j]?:=by
  intro j;rw[oH _ _ _ _ J];have V:v.cells.toList.length=d.cells.length:=by simpa using A
  rw[V];simp
 refine⟨iz w b (fT c (i*z+k) v.cells.toList) E,?_,?_⟩
 ·have:=mA (P:=P) b (i*z+k) E v.cells.toList 0 c w h2 (by simp;omega) M;simp only[Nat.add_zero]at this;simp[Instr.storeAt,Instr.sureAddr,storeVar,Sem.run_bind,dJ hl,A,Y,Sem.run,pure,iQ,this]
 have p:rW w lev (iz w b (fT c (i*z+k) v.cells.toList) E) lev:=rR h7;refine h.setObj (ud h h2 (fL _ _ _) h9 ?_) p (λ_ _=>rfl) (λ_ h=>h) (.inr (by rw[he];simp)) ?_ ?_
 ·intro j T;rw[q,aq (by omega)]
 ·intro b' s hs _ I _;have:b'≠b:=by
   rintro rfl;rw[h8]at I;cases I;exact hs rfl
  exact⟨qJ this _ _,rfl,rfl⟩
 ·rw[O];have Q:(kI rows[i] k d.cells).length=z:=by rw[lI (by omega)];exact X
  have m:∀e∈rows.set i (kI rows[i] k d.cells),e∈rows\/e=kI rows[i] k d.cells:=λe h=>List.mem_or_eq_of_mem_set h;refine .inr ⟨b,_,E,cap,by rw[List.length_set];exact h1,oD (lt_of_block h2) _ _,by rw[fL];exact h3,by rw[List.length_set];exact h4,?_,?_,h7,h8,by rw[fL];exact h9,?_⟩
  ·intro e n;rcases m e n with n|rfl
   ·exact h5 e n
   ·exact Q
  ·intro e n x g;rcases m e n with n|rfl
   ·exact h6 e n x g
   ·unfold kI at g;rcases List.mem_append.1 g with g|g
    ·rcases List.mem_append.1 g with g|g
     ·exact h6 _ (dH hi) x (List.mem_of_mem_take g)
     ·exact hc x g
    ·exact h6 _ (dH hi) x (List.mem_of_mem_drop g)
  ·intro C j e x f g;have U:j<z:=by
    have:e.length=z:=by
     rcases m e (fC f)with n|rfl
     ·exact h5 e n
     ·exact Q
    rw[<-this];exact(ia.1 g).1
   rw[q];by_cases F:C=i
   ·subst F;rw[List.getElem?_set_self hi]at f;cases f;rw[FU (by omega)]at g;by_cases T:k<=j/\j<k+d.cells.length
    ·rw[au T]at g;rw[au (by omega)];have e1:C*z+j-(C*z+k)=j-k:=by omega
     rw[e1];have K:j-k<v.cells.size:=by omega
     exact⟨v.cells[j-k],by simp[K],(W _ _ x (by simp[K]) g).Ax p λ_ _ h=>h⟩
    ·rw[aq T]at g;rw[aq (by omega)];obtain⟨u,Z,H⟩:=h10 C j rows[C] x (gF hi) g;exact⟨u,Z,H.Ax p λ_ _ h=>h⟩
   ·rw[List.getElem?_set_ne (Ne.symm F)]at f;obtain⟨u,Z,H⟩:=h10 C j e x f g;refine⟨u,?_,H.Ax p λ_ _ h=>h⟩;rw[aq ?_]
    ·exact Z
    ·rintro⟨g1,g2⟩;have e2:C*z+j=i*z+(C*z+j-i*z):=by omega
     exact F (aeU U (by omega) e2).1

def heap_alloc_old(w:World)(o:Obj)(h:b<w.heap.size):(w.alloc o).heap[b]?=w.heap[b]?:=Go.RowKit.Below.heap_alloc w o b h
def heap_alloc_new(w:World)(o:Obj):(w.alloc o).heap[w.heap.size]?=some o:=by show(w.heap.push _)[w.heap.size]?=_;simp
def Mi(h:Inv w0 l0 G S0 w lev own S env tm)(o:Obj)(x:Option Nat):aii w0 l0 G w (w.alloc o) (lP lev w.heap.size x):=by
 refine⟨rfl,rfl,rfl,by simp,?_,?_,?_,?_⟩
 ·intro b f _;exact heap_alloc_old w o (by have:=h.size;omega)
 ·intro b lo hi g;have k:=h.part b lo hi g;refine k.of_same (heap_alloc_old w o ?_);obtain⟨_,_,_,_,f,_⟩:=k;exact lt_of_block f
 ·intro b m e;by_cases f:b=w.heap.size
  ·subst f;simp
  ·rw[gX _ _ f]at e;have:=h.priv b m e;simp;omega
 ·intro b f g;rw[gX _ _ (by have:=h.size;omega)];exact h.mT b f g
def B1(w:World)(lev:Nat->Option Nat)(o:Obj)(x:Option Nat):rW w lev (w.alloc o) (lP lev w.heap.size x):=by
 intro a u g;have e:=World.block_lt_of_cell? _ _ (uc g);have f:a.block≠w.heap.size:=by omega
 unfold vis at g |-;rw[gX _ _ f,World.cell?_of_block (w:=w) (heap_alloc_old w o e)];exact g

def Inv.newObj(h:Inv w0 l0 G S0 w lev own S env tm)(k:16<=r)(q:env.o r=.undef)(T:TypeId)
  (y:∀lev' own' S',rW w lev (w.alloc (.cells vs T)) lev'->(∀s u,S s=some u->S' s=some u)->S' r=some v->(w.alloc (.cells vs T)).heap[w.heap.size]?=some (.cells vs T (0,0))->lev' w.heap.size=some 0->own' w.heap.size=some r->(∀lo hi,Yn G w0.heap.size w.heap.size lo hi) ->
   n8 w0.heap.size G (w.alloc (.cells vs T)) lev' own' S' r d) :
  Inv w0 l0 G S0 (w.alloc (.cells vs T)) (lP lev w.heap.size (some 0)) (lP own w.heap.size (some r)) (lP S r (some v)) (eV env r d) tm:=by
 have n:=h.fresh q;refine h.setObj (Mi h _ _) (B1 _ _ _ _) (λs p=>gX _ _ p) (λu f=>by rw[n]at f;cases f) (.inl k) ?_ ?_
 ·intro b s p _ hb x;have m:=h.priv b 0 x;have g:b≠w.heap.size:=by omega
  exact⟨heap_alloc_old w _ m,gX _ _ g,gX _ _ g⟩
 ·refine y _ _ _ (B1 _ _ _ _) ?_ (fc _ _ _) (heap_alloc_new _ _) (fc _ _ _) (fc _ _ _) (λ_ _=>.inl h.size);intro s u f;by_cases e:s=r
  ·subst e;rw[n]at f;cases f
  ·rw[gX _ _ e];exact f

def Inv.ajT(h:Inv w0 l0 G S0 w lev own S env tm)(g:16<=r)(q:env.o r=.undef)(T:TypeId)(hsz:vs.size=cs.length)
  (f:∀(j:Nat) u e,vs[j]?=some u->cs[j]?=some e->aO (cx w lev S) u e) :
  Inv w0 l0 G S0 (w.alloc (.cells vs T)) (lP lev w.heap.size (some 0)) (lP own w.heap.size (some r)) (lP S r (some (.pointer (some ⟨w.heap.size,0,none⟩)))) (eV env r (.box cs)) tm:=by
 refine h.newObj g q T ?_;intro lev' own' S' C n k x y A s;refine⟨w.heap.size,0,vs,T,k,x,by omega,y,A,s _ _,?_⟩;intro j u e m p;rw[Nat.zero_add]at m;exact(f j u e m p).Ax C n
def Inv.GC(h:Inv w0 l0 G S0 w lev own S env tm)(f:16<=r)(s:env.o r=.undef){cap:Nat}(T:TypeId)(n:vs.size=cap*z)(D:rows.length<=cap)(J:∀r∈rows,r.length=z)(C:∀r∈rows,∀c∈r,cE c)
  (e:∀(i j:Nat) r c,rows[i]?=some r->r[j]?=some c->∃u,vs[i*z+j]?=some u/\aO (cx w lev S) u c) :
  Inv w0 l0 G S0 (w.alloc (.cells vs T)) (lP lev w.heap.size (some 0)) (lP own w.heap.size (some r)) (lP S r (some (.slice (some ⟨w.heap.size,0,none⟩) rows.length cap))) (eV env r (.own z rows)) tm:=by
 refine h.newObj f s T ?_;intro lev' own' S' I q g y k F x;refine .inr ⟨w.heap.size,vs,T,cap,g,y,n,D,J,C,k,F,x _ _,?_⟩;intro i j p c hi A;obtain⟨u,H,m⟩:=e i j p c hi A;exact⟨u,H,m.Ax I q⟩
def Inv.ajU(h:Inv w0 l0 G S0 w lev own S env tm)(e:16<=r)(k:env.o r=.undef)(z:Nat)(a:Option Addr) :
  Inv w0 l0 G S0 w lev own (lP S r (some (.slice a 0 0))) (eV env r (.own z [])) tm:=by
 have g:=h.fresh k;refine h.setObj ⟨rfl,rfl,rfl,fO _,λ_ _ _=>rfl,?_,h.priv,h.mT⟩ (.refl _ _) (λs n=>gX _ _ n) (λu f=>by rw[g]at f;cases f) (.inl e) (λ_ _ _ _ _ _=>⟨rfl,rfl,rfl⟩) (.inl ⟨a,fc _ _ _,rfl⟩);intro b lo hi m;exact(h.part b lo hi m).of_same rfl
def Inv.drew(h:Inv w0 l0 G S0 w lev own S env tm):Inv w0 l0 G S0 w.drew lev own S env tm:=
 ⟨h.os,h.tape,h.output,h.size,h.old,h.part,h.priv,h.mT,h.VH,h.rP,h.objs⟩

def Inv.NR(h:Inv w0 l0 G S0 w lev own S env tm)(q:env.o r=.box cs){a:Addr}(g:S r=some (.pointer (some a))) :
  ∀(j:Nat) d,cs[j]?=some d->∃u,w.cell? (a.add j)=some u/\aO (cx w lev S) u d:=by
 have e:=h.objs r;rw[q]at e;obtain⟨b,o,c,E,m,n,h3,h4,h5,h6,p⟩:=e;rw[m]at g;cases g;intro j d k;have f:o+j<c.size:=by have:=(ia.1 k).1;omega
 refine⟨c[o+j],?_,p j _ d (by simp[f]) k⟩;rw[iQ,nP w b _ n];simp[f]
def Inv.EW(h:Inv w0 l0 G S0 w lev own S env tm)(n:env.o r=.own z rows) :
  ∃a cap,S r=some (.slice a rows.length cap)/\rows.length<=cap/\(∀r∈rows,∀d∈r,cE d)/\(∀r∈rows,r.length=z)/\(a=none->rows=[]/\cap=0)/\∀g,a=some g->∀(i j:Nat) row d,rows[i]?=some row->row[j]?=some d->∃u,w.cell? (g.add (i*z+j))=some u/\aO (cx w lev S) u d:=by
 have f:=h.objs r;rw[n]at f;rcases f with⟨a,k,rfl⟩| ⟨b,c,E,cap,k,h2,h3,h4,h5,h6,h7,h8,h9,h10⟩
 ·exact⟨a,0,k,by simp,by simp,by simp,λ_=>⟨rfl,rfl⟩,by simp⟩
 ·refine⟨_,cap,k,h4,h6,h5,(λe=>by cases e),?_⟩;rintro g ⟨⟩ i j row d hi hj;obtain⟨u,p,m⟩:=h10 i j row d hi hj;exact⟨u,by rw[iQ,Nat.zero_add,nP w b _ h2];exact p,m⟩
end
end Go.Abs
namespace Go.Abs
open List hiding max

theorem Oq(m:Nat):∀(k c:Nat),Builtin.growBy m k c<=max c (m+(m+768)/4)
 | 0,c=>by simp[Builtin.growBy];omega
 |k+1,c=>by
  unfold Builtin.growBy;split
  ·omega
  ·refine Nat.le_trans (Oq m k _) ?_;omega
def nextslicecap_le{m c:Nat}(h:c<m):Builtin.nextslicecap m c<=2*m+192:=by
 unfold Builtin.nextslicecap;split
 ·omega
 ·split
  ·omega
  ·have:=Oq m 4 c;omega


def qM(w:World)(C:Cx)(v:Value)(z:Nat)(rows:List (List D)):Prop:=
 ∃a cap,v=.slice a rows.length cap/\rows.length<=cap/\(∀r∈rows,r.length=z)/\(∀r∈rows,∀d∈r,cE d)/\(a=none->rows=[]) /\
  ∀b,a=some b->∀(i j:Nat) row d,rows[i]?=some row->row[j]?=some d->∃u,w.cell? (b.add (i*z+j))=some u/\aO C u d

def CO(w:World)(C:Cx)(v:Value)(z:Nat)(rows:List (List D)):Prop:=
 ∃a cap,v=.slice a rows.length cap/\rows.length<=cap/\(∀r∈rows,r.length=z)/\(∀r∈rows,∀d∈r,gM d)/\(a=none->rows=[]) /\
  ∀b,a=some b->∀(i j:Nat) row d,rows[i]?=some row->row[j]?=some d->∃u,w.cell? (b.add (i*z+j))=some u/\aO C u d

variable{v x y:Value}{rows rows2:List (List D)}{z cap by_:Nat}{w':World}{T2 T:TypeId}{a:Option Addr}{ea:Bool}
section
variable{P:Program}{V:Cx}{w:World}
def qM.toC(h:qM w V v z rows):CO w V v z rows:=by
 obtain⟨a,cap,b,c,e,f,g,i⟩:=h;exact⟨a,cap,b,c,e,λr hr d j=>(f r hr d j).1,g,i⟩
def CO.at(h:CO w V v z rows)(n:w'.heap=w.heap):CO w' V v z rows:=by
 obtain⟨a,cap,rfl,f,g,k,l,m⟩:=h;refine⟨a,cap,rfl,f,g,k,l,?_⟩;intro c e i j b d o p;obtain⟨u,q,hr⟩:=m c e i j b d o p;exact⟨u,by rw[<-q];simp only[World.cell?,n],hr⟩
def qM.nil(z:Nat)(a:Option Addr):qM w V (.slice a 0 0) z []:=⟨a,0,rfl,by simp,by simp,by simp,λ_=>rfl,by simp⟩
def qM.apn(n:∀a v,V.V a=some v->w.cell? a=some v)(h:aO V v (.sl z rows)):qM w V v z rows:=by
 obtain⟨a,cap,rfl,f,g,k,l,m⟩:=h.DW;refine⟨a,cap,rfl,f,g,k,λe=>(l e).1,?_⟩;intro c e i j b d o p;obtain⟨u,q,hr⟩:=m c e i j b d o p;exact⟨u,n _ _ q,hr⟩
def qM.mono{C':Cx}(h:qM w V v z rows)(q:∀a v,V.V a=some v->C'.V a=some v):qM w C' v z rows:=by
 obtain⟨a,cap,rfl,m,n,c,o,p⟩:=h;refine⟨a,cap,rfl,m,n,c,o,?_⟩;intro l e i j b d f g;obtain⟨u,r,hr⟩:=p l e i j b d f g;refine⟨u,r,hr.keep q ?_⟩;intro s k;rw[(c b (fC f) d (fC g)).2]at k;cases k
def qM.at(h:qM w V v z rows)(n:w'.heap=w.heap):qM w' V v z rows:=by
 obtain⟨a,cap,rfl,f,g,k,l,m⟩:=h;refine⟨a,cap,rfl,f,g,k,l,?_⟩;intro c e i j b d o p;obtain⟨u,q,hr⟩:=m c e i j b d o p;exact⟨u,by rw[<-q];simp only[World.cell?,n],hr⟩

theorem AS(I:z≠0)(H:CO w V x z rows) :
  ∃cs:List Value,(Builtin.firstCells z rows.length x).run P w=.ok cs.toArray w/\cs.length=rows.length*z /\
   (∀(i j:Nat) r d,rows[i]?=some r->r[j]?=some d->∃u,cs[i*z+j]?=some u/\aO V u d)/\∀u∈cs,u.oneCell'=true:=by
 obtain⟨a,cap,rfl,hcap,t,F,o,D⟩:=H;cases a with
 |none =>
  have:=o rfl;subst this;exact⟨[],by simp[Builtin.firstCells,Sem.run,pure],by simp,by simp,by simp⟩
 |some ad =>
  have c:∀m,m<rows.length*z->∃u d,w.cell? (ad.add m)=some u/\aO V u d/\gM d:=by
   intro m h;have n:m/z<rows.length:=Nat.div_lt_of_lt_mul (by rw[Nat.mul_comm];exact h);have hr:rows[m/z]?=some rows[m/z]:=gF n;have q:=t _ (dH n);have s:m%z<(rows[m/z]).length:=by rw[q];exact Nat.mod_lt _ (Nat.pos_of_ne_zero I)
   have E:(rows[m/z])[m%z]?=some (rows[m/z])[m%z]:=gF s;obtain⟨u,k,p⟩:=D ad rfl _ _ _ _ hr E;have e:m/z*z+m%z=m:=by rw[Nat.mul_comm];exact Nat.div_add_mod m z
   rw[e]at k;exact⟨u,_,k,p,F _ (dH n) _ (dH s)⟩
  let f:Nat->Value:=λm=>(w.cell? (ad.add m)).getD Go.undef
  have l:((range (rows.length*z)).map f).length=rows.length*z:=by simp
  have g:∀m,m<rows.length*z->((range (rows.length*z)).map f)[m]?=some (f m):=by
   intro m h;simp[h]
  refine⟨(range (rows.length*z)).map f,?_,l,?_,?_⟩
  ·have:=run_loadCells_list (P:=P) (w:=w) ad ((range (rows.length*z)).map f) ?_
   ·rw[l]at this;simpa[Builtin.firstCells]using this
   ·intro m v h;have b:m<rows.length*z:=by
     have:=(ia.1 h).1;simpa using this
    rw[g m b]at h;cases h;obtain⟨u,d,k,_⟩:=c m b;simp only[f,k,Option.getD_some]
  ·intro i j r d n s;have q:=t r (fC n);have A:=(ia.1 n).1;have B:j<z:=by rw[<-q];exact(ia.1 s).1
   have b:i*z+j<rows.length*z:=um B A;obtain⟨u,k,p⟩:=D ad rfl i j r d n s;exact⟨u,by rw[g _ b];simp[f,k],p⟩
  ·intro u k;obtain⟨m,h⟩:=mem_iff_getElem?.1 k;have b:m<rows.length*z:=by
    have:=(ia.1 h).1;simpa using this
   rw[g m b]at h;cases h;obtain⟨u,d,k,hr,C⟩:=c m b;simp only[f,k,Option.getD_some];exact(Fm hr C).1
def LH{i:Nat}{r:List D}(h:(rows++rows2)[i]?=some r):rows[i]?=some r\/(rows.length<=i/\rows2[i-rows.length]?=some r):=by
 by_cases b:i<rows.length
 ·rw[getElem?_append_left b]at h;exact .inl h
 ·rw[getElem?_append_right (by omega)]at h;exact .inr ⟨by omega,h⟩

def NH(hT:fD P T=.slice z by_ ea)(Q:∃e,P.underlying T2=some (.slice e))
  (hx:CO w V (.slice a rows.length cap) z rows) (hy:CO w V y z rows2) (C:¬rows.length+rows2.length<=cap) (hroom:Builtin.nextslicecap (rows.length+rows2.length) cap*by_<=2^48) (hneed:rows.length+rows2.length<=2^48) (T3:TypeId) :
  ∃(N:Nat)(e:TypeId)(cells:Array Value),rows.length+rows2.length<=N/\cells.size=N*z /\
   (Builtin.append_ #[T,T2] T3 #[.slice a rows.length cap,y]).run P w=.ok (.slice (some ⟨w.heap.size,0,none⟩) (rows.length+rows2.length) N) (w.drew.alloc (.cells cells e)) /\
   ∀(i j:Nat) row d,(rows++rows2)[i]?=some row->row[j]?=some d->∃u,cells[i*z+j]?=some u/\aO V u d:=by
 obtain⟨e,f,hu,hl,l,U,hz,zv,af,ag⟩:=fy hT;obtain⟨e2,Z⟩:=Q;have B:(w.drew).heap=w.heap:=rfl;have aa:=hx;have ac:=hy;obtain⟨a2,cap2,ad,hcap2,M,hk2,hnone2,hc2⟩:=ac;obtain⟨a1,cap1,ab,hcap1,L,hk1,hnone1,hc1⟩:=aa;cases ab;subst ad;have hcl:cap<rows.length+rows2.length:=by omega
 have h:¬Builtin.nextslicecap (rows.length+rows2.length) cap*f.bytes>2^48:=by
  rw[U];omega
 obtain⟨c,I,H,F,-⟩:=AS (P:=P) (w:=w.drew) hz (hy.at B);obtain⟨g,K,b,J,-⟩:=AS (P:=P) (w:=w.drew) hz (hx.at B);obtain⟨N,t⟩:∃N,N=(Question.appendCap (rows.length+rows2.length) cap e).cut (w.tape w.drawn (.appendCap (rows.length+rows2.length) cap e)):=⟨_,rfl⟩
 have hN:rows.length+rows2.length<=N:=by rw[t];simp only[Question.cut];omega
 let cells:Array Value:=g.toArray++c.toArray++Builtin.zeroCells zv.cells (N-(rows.length+rows2.length))
 have s:cells.size=N*z:=by
  simp only[cells,Builtin.zeroCells,Array.size_append,size_toArray,Array.size_map,Array.size_range,b,H,ag];rw[<-Nat.add_mul,<-Nat.add_mul];congr 1;omega
 have A:∀n,(askRoom n).run P w.drew=.ok () w.drew:=by
  intro n;unfold askRoom;split<;>simp[mark,Sem.run,pure]
 have W:(Question.appendCap (rows.length+rows2.length) cap e).forced=false:=rfl;have ae:(zeroValue e).run P w.drew=.ok zv w.drew:=by
  simp[zeroValue,Sem.run_bind,nA l,af,Sem.run,pure]
 have D:(typeInfo e).run P w=.ok f w:=nA l w;have m:(typeInfo e).run P w.drew=.ok f w.drew:=nA l _;refine⟨N,e,cells,hN,s,?_,?_⟩
 ·have O:(newRow e cells).run P w.drew=.ok ⟨w.heap.size,0,none⟩ (w.drew.alloc (.cells cells e)):=by
   simp[newRow,newObj,Sem.run,Sem.bind,pure,bind,World.alloc]
  have hi3:¬((9223372036854775807:Int)<(rows.length:Int)+(rows2.length:Int)/\f.bytes=0):=by omega
  have R:¬ 281474976710656<Builtin.nextslicecap (rows.length+rows2.length) cap*f.bytes:=by
   intro hh;exact h (by simpa using hh)
  have p:(newRow e (g.toArray++(c.toArray++Builtin.zeroCells zv.cells (N-(rows.length+rows2.length))))).run P w.drew=.ok ⟨w.heap.size,0,none⟩ (w.drew.alloc (.cells cells e)):=by
   rw[<-Array.append_assoc];exact O
  simp[Builtin.append_,Sem.run_bind,bQ hu,bQ Z,dJ hl,Builtin.lenOf,C,D,hi3,R,W,<-t,A,m,K,I,ae,p,Sem.run,pure]
 ·intro i j r d hi X;have o:∀r∈rows++rows2,r.length=z:=by
   intro r hr;rcases mem_append.1 hr with hr|hr
   ·exact L r hr
   ·exact M r hr
  have Y:j<z:=by
   have:=o r (fC hi);rw[<-this];exact(ia.1 X).1
  rcases LH hi with hi'| ⟨hge,hi'⟩
  ·have E:=um Y (ia.1 hi').1;obtain⟨u,k,q⟩:=J i j r d hi' X;refine⟨u,?_,q⟩;simp only[cells];rw[Array.append_assoc,Array.getElem?_append_left (by simp[b];exact E)];simpa using k
  ·obtain⟨u,k,q⟩:=F _ j r d hi' X;have hge':rows.length*z<=i*z:=pH z hge;have e1:i*z+j-rows.length*z=(i-rows.length)*z+j:=by rw[Nat.sub_mul];omega
   have E:(i-rows.length)*z+j<c.length:=(ia.1 k).1;refine⟨u,?_,q⟩;simp only[cells];rw[Array.append_assoc,Array.getElem?_append_right (by simp[b];omega),Array.getElem?_append_left (by simp[b];omega)];simp only[size_toArray,b,e1];simpa using k
def R7(k:fD P T=.slice z by_ ea)(g:∃e,P.underlying T2=some (.slice e))
  (l:CO w V (.slice a rows.length cap) z rows) (n:CO w V y z rows2) (f:¬rows.length+rows2.length<=cap) (h:(by_+1)*(rows.length+rows2.length)<=2^45) (hby:by_<=2^32) (T3:TypeId) :
  ∃(N:Nat)(e:TypeId)(cells:Array Value),rows.length+rows2.length<=N/\cells.size=N*z /\
   (Builtin.append_ #[T,T2] T3 #[.slice a rows.length cap,y]).run P w=.ok (.slice (some ⟨w.heap.size,0,none⟩) (rows.length+rows2.length) N) (w.drew.alloc (.cells cells e)) /\
   ∀(i j:Nat) row d,(rows++rows2)[i]?=some row->row[j]?=some d->∃u,cells[i*z+j]?=some u/\aO V u d:=by
 refine NH k g l n f ?_ ?_ T3
 ·have b:=nextslicecap_le (m:=rows.length+rows2.length) (c:=cap) (by omega);have h1:Builtin.nextslicecap (rows.length+rows2.length) cap*by_<=(2*(rows.length+rows2.length)+192)*by_:=pH _ b;have h2:by_*(rows.length+rows2.length)<=2^45:=Nat.le_trans (by rw[Nat.succ_mul];omega) h;have h3:(2*(rows.length+rows2.length)+192)*by_=2*(by_*(rows.length+rows2.length))+192*by_:=by
   rw[Nat.add_mul,Nat.mul_assoc,Nat.mul_comm (rows.length+rows2.length) by_]
  omega
 ·refine Nat.le_trans (Nat.le_trans ?_ h) (by omega);rw[Nat.succ_mul];omega
theorem PZ(s:fD P T=.slice z by_ ea)(k:∃e,P.underlying T2=some (.slice e)){len:Nat}
  (q:CO w V y z rows2) (c:len+rows2.length<=cap) (T3:TypeId):∃news:List Value,news.length=rows2.length*z/\(∀(i j:Nat) r d,rows2[i]?=some r->r[j]?=some d->∃u,news[i*z+j]?=some u/\aO V u d)/\(∀u∈news,u.oneCell'=true) /\
   ∀b,(match a with|some ad=>storeCells (ad.add (len*z)) news|none=>pure ():Sem Unit).run P w=.ok () b->(Builtin.append_ #[T,T2] T3 #[.slice a len cap,y]).run P w=.ok (.slice a (len+rows2.length) cap) b:=by
 obtain⟨e,inf,p,o,hin,hbi,t,zv,hzv,hzz⟩:=fy s;obtain⟨e2,h⟩:=k;obtain⟨news,g,n,m,l⟩:=AS (P:=P) (w:=w) t q;refine⟨news,n,m,l,?_⟩;intro b f;obtain⟨a2,cap2,rfl,_⟩:=q;cases a with
 |none =>
  have:b=w:=by simpa[Sem.run,pure]using f.symm
  subst this;simp[Builtin.append_,Sem.run_bind,bQ p,bQ h,dJ o,Builtin.lenOf,c,g,Sem.run,pure]
 |some ad =>
  simp only at f;simp[Builtin.append_,Sem.run_bind,bQ p,bQ h,dJ o,Builtin.lenOf,c,g,f,Sem.run,pure]
end

variable{N:Nat}
section
variable{P:Program}{w0 w w':World}{l0:Nat->Option Nat}{G:Nat->Option (Nat×Nat)}{S0:Nat->Option Value}{lev lev' own own':Nat->Option Nat}{S S':Nat->Option Value}{env env':Env}{tm tm':Nat->Value}

def qM.perm(h:qM w (cx w lev S) v z rows)(S':Nat->Option Value):qM w (cx w lev S') v z rows:=h.mono λ_ _ h=>h

def Inv.Xd(h:Inv w0 l0 G S0 w lev own S env tm)(g:16<=N)(H:env.o N=.undef)(r:fD P T=.slice z by_ ea)(k:∃e,P.underlying T2=some (.slice e))
  (C:qM w (cx w lev S) y z rows2) (Q:(by_+(1-by_))*rows2.length<=2^47) (T3:TypeId) :
  ∃v w' lev' own' S',(Builtin.append_ #[T,T2] T3 #[.slice a 0 0,y]).run P w=.ok v w'/\Inv w0 l0 G S0 w' lev' own' S' (eV env N (.own z rows2)) tm/\S' N=some v/\∃a l c,v=.slice a l c:=by
 obtain⟨e,inf,I,hl,hin,hbi,hz,zv,hzv,hzz⟩:=fy r;by_cases q:rows2=[]
 ·subst q;obtain⟨news,A,_,_,p⟩:=PZ (P:=P) (w:=w) (V:=cx w lev S) r k (a:=a) (len:=0) (cap:=0) C.toC (by simp) T3;have:news=[]:=length_eq_zero_iff.1 (by simpa using A);subst this;refine⟨.slice a 0 0,w,lev,own,_,?_,h.ajU g H z a,fc _ _ _,_,_,_,rfl⟩;exact p w (by cases a<;>simp[storeCells,Sem.run,pure])
 ·have m:¬([]:List (List D)).length+rows2.length<=0:=by
   have:=length_pos_iff.2 q;simp;omega
  have hpos:=length_pos_iff.2 q;have f:Builtin.nextslicecap (([]:List (List D)).length+rows2.length) 0*by_<=2^48:=by
   have e:Builtin.nextslicecap (([]:List (List D)).length+rows2.length) 0=rows2.length:=by
    unfold Builtin.nextslicecap;rw[au (by simp;omega)];simp
   rw[e,Nat.mul_comm];refine Nat.le_trans (Nat.le_trans (pH _ (Nat.le_add_right _ (1-by_))) Q) (by omega)
  have b:([]:List (List D)).length+rows2.length<=2^48:=by
   have F:1*rows2.length<=(by_+(1-by_))*rows2.length:=pH _ (by omega);simp only[length_nil];omega
  obtain⟨M,J,cells,F,K,L,O⟩:=NH (P:=P) (w:=w) (V:=cx w lev S) r k (a:=a) (cap:=0) (rows:=[]) (qM.nil z a).toC C.toC m f b T3;obtain⟨a2,cap2,rfl,hcap2,n,t,hnone2,hc2⟩:=C
  have s:=h.drew.GC g H (vs:=cells) (z:=z) (cap:=M) (rows:=rows2) J K (by simpa using F) n t (by
   intro i j E d s R;obtain⟨u,I,B⟩:=O i j E d (by simpa using s) R
   exact⟨u,I,aO.iL (w:=w) (w':=w.drew) (lev':=lev) B (λ_ _ h=>h) (λ_ _ _ h=>h)⟩)
  refine⟨_,_,_,_,_,L,s,?_,_,_,_,rfl⟩;rw[fc];simp

def Inv.aeg(h:Inv w0 l0 G S0 w lev own S env tm){r:Nat}(he:env.o r=.own z rows)(F:16<=N)(hf:(nr r env).o N=.undef)(hT:fD P T=.slice z by_ ea)(H:∃e,P.underlying T2=some (.slice e))
  (O:S r=some x) (hy:qM w (cx w lev S) y z rows2) (hb:(by_+1)*(rows.length+rows2.length)<=2^45) (ab:by_<=2^32) (T3:TypeId) :
  ∃v w' lev' own' S',(Builtin.append_ #[T,T2] T3 #[x,y]).run P w=.ok v w'/\Inv w0 l0 G S0 w' lev' own' S' (eV (nr r env) N (.own z (rows++rows2))) tm/\S' N=some v/\∃a l c,v=.slice a l c:=by
 have Z:=h.kill r;have D:=h.objs r;rw[he]at D;rcases D with⟨a,Y,rfl⟩| ⟨b,c,E,cap,Y,Q,h3,h4,h5,h6,h7,h8,h9,h10⟩
 ·rw[Y]at O;cases O
  exact Z.Xd F hf hT H (hy.perm _) (by
   have Y:(by_+(1-by_))*rows2.length<=(by_+1)*rows2.length:=pH _ (by omega);have Q:(by_+1)*rows2.length<=2^45:=by simpa using hb
   omega) T3
 rw[Y]at O;cases O;have aj:=hy;obtain⟨a2,cap2,hyv,hcap2,U,ae,hnone2,hc2⟩:=aj;have J:∀f∈rows++rows2,f.length=z:=by
  intro f g;rcases mem_append.1 g with g|g
  ·exact h5 f g
  ·exact U f g
 have A:∀f∈rows++rows2,∀d∈f,cE d:=by
  intro f g;rcases mem_append.1 g with g|g
  ·exact h6 f g
  ·exact ae f g
 have O:qM w (cx w lev S) (.slice (some ⟨b,0,none⟩) rows.length cap) z rows:=by
  refine⟨_,cap,rfl,h4,h5,h6,(λe=>by cases e),?_⟩;rintro ad ⟨⟩ i j f d q n;obtain⟨u,L,k⟩:=h10 i j f d q n;exact⟨u,by rw[iQ,Nat.zero_add,nP w b _ Q];exact L,k⟩
 by_cases m:rows.length+rows2.length<=cap
 ·obtain⟨news,ai,ah,ag,W⟩:=PZ (P:=P) (w:=w) (V:=cx w lev S) hT H (a:=some ⟨b,0,none⟩) (len:=rows.length) (cap:=cap) hy.toC m T3;have p:0+rows.length*z+news.length<=c.size:=by
   rw[ai,h3,Nat.zero_add,<-Nat.add_mul];exact pH z m
  have X:=mA (P:=P) b (rows.length*z) E news 0 c w Q (by simpa using p) ag;simp only[Nat.add_zero]at X;have C:∀j,(fT c (rows.length*z) news)[j]?=if rows.length*z<=j/\j<rows.length*z+news.length then news[j-rows.length*z]? else c[j]?:=
   λj=>oH news c _ j (by simpa using p)
  have K:rW w lev (iz w b (fT c (rows.length*z) news) E) lev:=rR h7;refine⟨_,iz w b (fT c (rows.length*z) news) E,lev,lP own b (some N),lP (lP S r none) N (some (.slice (some ⟨b,0,none⟩) (rows.length+rows2.length) cap)),W _ (by simpa[iQ]using X),?_,fc _ _ _,_,_,_,rfl⟩;have aa:=Z.fresh hf;refine Z.setObj (ud h Q (fL _ _ _) h9 (λj n=>?_)) K (λs hs=>gX _ _ hs) (λu L=>by rw[aa]at L;cases L) (.inl F) ?_ ?_
  ·rcases n with n|n
   ·omega
   ·rw[C,aq (by omega)]
  ·intro b' s hs I R _;have:b'≠b:=by
    rintro rfl;rw[h8]at R;cases R;exact I (by simp[nr])
   exact⟨qJ this _ _,rfl,gX _ _ this⟩
  ·refine .inr ⟨b,_,E,cap,by rw[fc,ct],oD (lt_of_block Q) _ _,by rw[fL];exact h3,by rw[ct];exact m,J,A,h7,fc _ _ _,by rw[fL];exact h9,?_⟩;intro i j f d q n;have ac:j<z:=by
    rw[<-J f (fC q)];exact(ia.1 n).1
   have t:d.names=[]:=(A f (fC q) d (fC n)).2;rw[C];rcases LH q with hi'| ⟨hge,hi'⟩
   ·have af:=um ac (ia.1 hi').1;rw[aq (by omega)];obtain⟨u,B,k⟩:=h10 i j f d hi' n;exact⟨u,B,k.iL K (by rw[t];simp)⟩
   ·obtain⟨u,B,k⟩:=ah _ j f d hi' n;have hge':rows.length*z<=i*z:=pH z hge;have e1:i*z+j-rows.length*z=(i-rows.length)*z+j:=by rw[Nat.sub_mul];omega
    have af:(i-rows.length)*z+j<news.length:=(ia.1 B).1;rw[au (by omega),e1];exact⟨u,B,k.iL K (by rw[t];simp)⟩
 ·obtain⟨M,e',cells,g1,g2,g3,g4⟩:=R7 (P:=P) (w:=w) (V:=cx w lev S) hT H O.toC hy.toC m hb ab T3
  have q:=Z.drew.GC F hf (vs:=cells) (z:=z) (cap:=M) (rows:=rows++rows2) e' g2 (by rw[ct];exact g1) J A (by
   intro i j f d q n;obtain⟨u,L,k⟩:=g4 i j f d q n;have t:d.names=[]:=(A f (fC q) d (fC n)).2
   exact⟨u,L,aO.iL (w:=w) (w':=w.drew) (lev':=lev) k (λ_ _ h=>h) (by rw[t];simp)⟩)
  refine⟨_,_,_,_,_,g3,q,?_,_,_,_,rfl⟩;rw[fc,ct];rfl
end
end Go.Abs
namespace Go.Abs

def gL(P:Program)(e:Env)(t:TypeId)(parts:List (Nat×Operand)):List (Nat×Nat×D):=
 match fD P t with
 | .struct fs=>parts.map λx=>match fs[x.1]? with
  |some f=>(f.off,f.sz,rd e x.2)
  |none=>(0,0,.undef)
 | .arr _ z _=>parts.map λx=>(x.1*z,z,rd e x.2)
 | _=>[]
def IV(P:Program)(e:Env)(t:TypeId)(parts:List (Nat×Operand)):Prop:=
 (match fD P t with
 | .struct fs=>∀x∈parts,x.1<fs.length
 | .arr _ _ _=>True
 | _=>False)/\∃z,oI P t=some z/\sK z.length (gL P e t parts)


def IU:D->D
 | .own _ rows=>.int .i64 rows.length
 | _=>.undef
def EV:D->Prop
 | .own _ _=>True
 | _=>False
def ab2(e:Env):D->D
 | .sl _ rows=>.int .i64 rows.length
 | .nil=>.int .i64 0
 | .emp=>.int .i64 0
 | .ref r=>IU (e.o r)
 | .gl _ _ _ len=>.int .i64 len
 | .dZ _ _ _ len _=>.int .i64 len
 | .str s=>.int .i64 s.size
 | _=>.undef
def QF(e:Env)(t:Ty)(d:D):D:=
 match t with
 | .arr n _ _=>.int .i64 n
 | _=>ab2 e d
def Kw(e:Env):D->Prop
 | .sl _ _| .nil| .emp| .gl _ _ _ _| .dZ _ _ _ _ _=>True
 | .ref r=>EV (e.o r)
 | _=>False
def isStr:D->Prop
 | .str _=>True
 | _=>False
def EP(e:Env)(t:Ty)(d:D):Prop:=
 match t with
 | .slice _ _ _=>Kw e d
 | .str=>isStr d
 | .arr _ _ _=>True
 | _=>False
def TF:D->D->D
 | .int k x,.int _ y=>.int k (if y>x then y else x)
 | _,_=>.undef
def TJ:D->D->D
 | .int k x,.int _ y=>.int k (if y<x then y else x)
 | _,_=>.undef
def xh:List D->Prop
 | []=>True
 | .int _ _::r=>xh r
 | _::_=>False
def SL(f:D->D->D):List D->D
 | []=>.undef
 |x::r=>r.foldl f x


def Rz(e:Env)(a:Int):Option Operand->D
 |some x=>rd e x
 |none=>.int .i64 a
def WB(e:Env)(t:Ty)(x:D)(l h:Nat):D:=
 match x with
 | .sl z rows=>.sl z ((rows.take h).drop l)
 | .str s=>.str (s.extract l h)
 | .nil=>.nil
 | .emp=>.emp
 | .ref r=>match e.o r with
  | .own z _=>.gl r z l (h-l)
  | _=>.undef
 | .gl r z lo _=>.gl r z (lo+l) (h-l)
 | .dZ r off z _ cap=>.dZ r (off+l*z) z (h-l) (cap-l)
 | .addr r off=>match t with
  | .arr n z _=>.dZ r (off+l*z) z (h-l) (n-l)
  | _=>.undef
 | _=>.undef
def I1(e:Env)(t:Ty)(x:D):Option Nat:=
 match x,t with
 | .sl z rows,.slice z' _ _=>if z=z' then some rows.length else none
 | .str s,.str=>some s.size
 | .nil,.slice _ _ _=>some 0
 | .emp,.slice _ _ _=>some 0
 | .ref r,.slice z' _ _=>match e.o r with
  | .own z rows=>if z=z' then some rows.length else none
  | _=>none
 | .gl _ z _ len,.slice z' _ _=>if z=z' then some len else none
 | .dZ _ _ z len _,.slice z' _ _=>if z=z' then some len else none
 | .addr _ _,.arr n _ _=>some n
 | _,_=>none
def slC(e:Env)(t:Ty)(x:D):Option Nat:=
 match x,t with
 | .dZ _ _ z _ cap,.slice z' _ _=>if z=z' then some cap else none
 |x,t=>I1 e t x
def SlK(N:Option Nat)(lo a:D)(k:Nat->Nat->Nat->Prop):Prop:=
 match N,lo,a with
 |some n,.int _ l,.int _ h=>0<=l/\l<=h/\h<=n/\k n l.toNat h.toNat
 | _,_,_=>False
def DV(N:Option Nat):Int:=((N.getD 0:Nat):Int)
def slV(e:Env)(t:Ty)(x:D)(lo a:Option Operand):D:=
 match Rz e 0 lo,Rz e (DV (I1 e t x)) a with
 | .int _ l,.int _ h=>WB e t x l.toNat h.toNat
 | _,_=>.undef
def ac7(e:Env)(t:Ty)(x:D)(lo a:Option Operand):Prop:=
 SlK (slC e t x) (Rz e 0 lo) (Rz e (DV (I1 e t x)) a) λ_ _ _=>True
def abS:Ty->Prop
 | .slice _ _ _=>True
 | _=>False
def agZ:D->Prop
 | .sl _ _| .nil| .emp| .ref _| .gl _ _ _ _| .dZ _ _ _ _ _=>True
 | _=>False
def isZero:D->Prop
 | .int _ n=>n=0
 | _=>False

def iA(P:Program)(e:Env):Op->D
 | .move x=>rd e x
 | .assign x=>rd e x
 | .pick c a b=>match rd e c with
  | .bool p=>if p then rd e a else rd e b
  | _=>.undef
 | .binOp op _ x y _=>CC op (rd e x) (rd e y)
 | .unOp op _ x=>BY op (rd e x)
 | .convert s d x=>NY (fD P s) (fD P d) (rd e x)
 | .fieldAddr t x f=>match fD P t with
  | .struct fs=>faV fs f (rd e x)
  | _=>.undef
 | .field t x f=>match fD P t with
  | .struct fs=>YX fs f (rd e x)
  | _=>.undef
 | .indexAddr t x i=>Y4 e (fD P t) (rd e x) (rd e i)
 | .index t x i=>ixV (fD P t) (rd e x) (rd e i)
 | .load t a=>match jx P t with
  |some l=>ldV e l (rd e a)
  |none=>.undef
 | .nilCheck x=>rd e x
 | .extract x i=>match rd e x with
  | .bD ds=>ds.getD i .undef
  | _=>.undef
 | .build t parts=>match oI P t with
  |some z=>.agg (pR z (gL P e t parts.toList))
  |none=>.undef
 | .slice t x lo hi none=>slV e (fD P t) (rd e x) lo hi
 | .slice _ _ _ _ (some _)=>.emp
 | .makeFunc (.func f) _ caps=>.fn f (caps.toList.map (rd e))
 | .call c=>match c.callee,c.args.toList,c.argTypes.toList with
  | .builtin .len,[x],[t]=>QF e (fD P t) (rd e x)
  | .builtin .max,l,_=>SL TF (l.map (rd e))
  | .builtin .min,l,_=>SL TJ (l.map (rd e))
  | _,_,_=>.undef
 | _=>.undef

def ach:D->Prop
 | .addr _ _| .dO _ _ _ _| .bG _| .fn _ _=>True
 | _=>False
def fq(P:Program)(e:Env):Op->Prop
 | .move _=>True
 | .assign _=>True
 | .pick c _ _=>match rd e c with
  | .bool _=>True
  | _=>False
 | .binOp op t x y _=>AJ P (isConst x||isConst y) op t (rd e x) (rd e y)
 | .unOp op _ x=>xJ op (rd e x)
 | .convert s d x=>JJ (fD P s) (fD P d) (rd e x)
 | .fieldAddr t x f=>match fD P t with
  | .struct fs=>YV fs f (rd e x)
  | _=>False
 | .field t x f=>match fD P t with
  | .struct fs=>Oj fs f (rd e x)
  | _=>False
 | .indexAddr t x i=>S6 e (fD P t) (rd e x) (rd e i)
 | .index t x i=>Tk (fD P t) (rd e x) (rd e i)
 | .load t a=>match jx P t with
  |some l=>QB e l (rd e a)
  |none=>False
 | .nilCheck x=>ach (rd e x)
 | .extract x i=>match rd e x with
  | .bD ds=>i<ds.length
  | _=>False
 | .build t parts=>IV P e t parts.toList
 | .slice t x lo hi none=>ac7 e (fD P t) (rd e x) lo hi
 | .slice t x none (some h) (some m)=>abS (fD P t)/\agZ (rd e x)/\isZero (rd e h)/\isZero (rd e m)
 | .makeFunc (.func _) first _=>first = #[]
 | .call c=>match c.callee,c.args.toList,c.argTypes.toList with
  | .builtin .len,[x],[t]=>EP e (fD P t) (rd e x)
  | .builtin .max,l,_=>l≠[]/\xh (l.map (rd e))
  | .builtin .min,l,_=>l≠[]/\xh (l.map (rd e))
  | _,_,_=>False
 | _=>False

section
variable{P:Program}{w0 w w':World}{l0:Nat->Option Nat}{G:Nat->Option (Nat×Nat)}{S0:Nat->Option Value}{lev lev' own own':Nat->Option Nat}{S S':Nat->Option Value}{env env':Env}{tm tm':Nat->Value}

theorem Inv.yR{tmps:Array Value}(h:Inv w0 l0 G S0 w lev own S env (oY tmps))(a:Act)(b:a.tmps=tmps)(x:Operand):aO (cx w lev S) (a.eval x) (rd env x):=by
 subst b;cases x with
 |tmp t=>exact h.rP t
 |const v=>exact Us v
 |global g=>exact .undef _
 |func f=>exact .fn f #[] [] rfl (by intro i v d c;simp at c)
theorem LM{V:Cx}(a:Nat->Option (Nat×Nat)):∀(ps:List (Nat×Value))(qs:List (Nat×Nat×D))(cs:Array Value)(ds:List D),ps.length=qs.length->cs.size=ds.length ->
  (∀(i:Nat) v d,cs[i]?=some v->ds[i]?=some d->aO V v d) ->
  (∀(k:Nat) p q,ps[k]?=some p->qs[k]?=some q->a p.1=some (q.1,q.2.1)/\aO V p.2 q.2.2)->sK ds.length qs ->
  ∃b,Instr.fill a cs ps=some b/\b.size=(pR ds qs).length/\∀(i:Nat) v d,b[i]?=some v->(pR ds qs)[i]?=some d->aO V v d
 | [],[],cs,ds,_,hs,hr,_,_=>⟨cs,rfl,hs,hr⟩
 | [],_::_,_,_,h,_,_,_,_=>by simp at h
 | _::_,[],_,_,h,_,_,_,_=>by simp at h
 | (i,v)::ps,(off,sz,d)::qs,cs,ds,hl,hs,hr,hp,hok=>by
  obtain⟨h1,h2,y,z⟩:=hok;obtain⟨j,m⟩:=hp 0 (i,v) (off,sz,d) rfl rfl;simp only at j m;obtain⟨c1,c2,c3⟩:=wJ m y;have C:(v.cells.zipIdx.foldl (λcs (x:Value×Nat)=>cs.setIfInBounds (off+x.2) x.1) cs)=fT cs off v.cells.toList:=by
   rw[<-Array.foldl_toList,Array.toList_zipIdx];have:∀(l:List Value)(k:Nat)(c:Array Value),(l.zipIdx k).foldl (λcs (x:Value×Nat)=>cs.setIfInBounds (off+x.2) x.1) c=fT c (off+k) l:=by
    intro l;induction l with
    |nil=>intro k c;rfl
    |cons x l ih=>intro k c;simp only[List.zipIdx_cons,List.foldl_cons,fT,ih];rw[Nat.add_assoc]
   exact this _ 0 cs
  have f:off+v.cells.toList.length<=cs.size:=by simp;omega
  have e:(kI ds off d.cells).length=ds.length:=lI (by omega);obtain⟨b,s,e2,t⟩:=LM a ps qs (fT cs off v.cells.toList) (kI ds off d.cells) (by simpa using hl) (by rw[fL,e];exact hs)
   (by
    intro k u x n o;rw[oH _ _ _ _ f]at n;rw[FU (by omega)]at o;have g:v.cells.toList.length=d.cells.length:=by simpa using c1
    by_cases r:off<=k/\k<off+d.cells.length
    ·rw[au (by rw[g];exact r)]at n;rw[au r]at o;exact c3 _ u x (by simpa using n) o
    ·rw[aq (by rw[g];exact r)]at n;rw[aq r]at o
     exact hr k u x n o)
   (λk p q A B=>hp (k+1) p q A B) (by rw[e];exact z)
  refine⟨b,?_,e2,t⟩;unfold Instr.fill;simp only[j];rw[aq (by simp;omega)];rw[C];exact s

def afu{a:Array Field}{l:List FT}(c:tC P a.toList=some l)(w:World) :
  ∃ps:Array (Nat×Nat),(a.mapM (λf=>do pure (f.offset,<-sizeOf f.type):Field->Sem (Nat×Nat))).run P w=.ok ps w/\∀i:Nat,ps[i]?=(l[i]?).map λf=>(f.off,f.sz):=by
 have key:∀(r:List Field)(l:List FT)(acc:Array (Nat×Nat)),tC P r=some l ->
   (r.foldlM (λ(acc:Array (Nat×Nat)) f=>do pure (acc.push (f.offset,<-sizeOf f.type))) acc:Sem (Array (Nat×Nat))).run P w=.ok (acc++(l.map λf=>(f.off,f.sz)).toArray) w:=by
  intro r;induction r with
  |nil =>
   intro l acc h;simp only[tC,qN]at h;subst h;simp[Sem.run,pure]
  |cons f r ih =>
   intro l acc h;unfold tC at h;split at h<;>try(cases h;done)
   rename_i ly b d hr;split at h
   ·cases h
   ·cases h;simp only[List.foldlM_cons,Sem.run_bind,dJ d];have:=ih b (acc.push (f.offset,ly.sz)) hr;simp only[Result.andThen_ok,pure,Sem.run]at this |-;rw[this];simp
 refine⟨(l.map λf=>(f.off,f.sz)).toArray,?_,λi=>by simp⟩;have:=key a.toList l #[] c;rw[Array.mapM_eq_foldlM];rw[<-Array.foldlM_toList];simpa using this

end
end Go.Abs
namespace Go.Abs

variable{k k':IntKind}{N cap b z:Nat}{lo hi:Option Operand}{l h:Int}{oV:Operand->Value}{e:Env}{V:Cx}{ea:Bool}{t:TypeId}{d:D}{x:Value}
section
variable{P:Program}{w0 w w':World}{l0:Nat->Option Nat}{G:Nat->Option (Nat×Nat)}{S0:Nat->Option Value}{lev lev' own own':Nat->Option Nat}{S S':Nat->Option Value}{env env':Env}{tm tm':Nat->Value}

def mN{s:Sem Value}{u:Value}{w':World}(h:s.run P w=.ok u w'):(do pure (Next.value (<-s)):Sem Next).run P w=.ok (.value u) w':=by
 simp[Sem.run_bind,h,Sem.run,pure]
def ahb{α:Type}{a:Array α}{x:α}(h:a.toList=[x]):a = #[x]:=Array.ext' (by simpa using h)

theorem X0{V:Cx}:∀(vs:List Value)(ds:List D)(x:Value)(d:D),aO V x d->(∃k n,d=.int k n)->vs.length=ds.length->(∀(i:Nat) v e,vs[i]?=some v->ds[i]?=some e->aO V v e)->xh ds ->
  ∃u,(vs.foldlM Builtin.max2 x).run P w=.ok u w/\aO V u (ds.foldl TF d)/\∃k n,ds.foldl TF d=.int k n
 | [],[],x,d,hx,a,_,_,_=>⟨x,rfl,hx,a⟩
 | [],_::_,_,_,_,_,h,_,_=>by simp at h
 | _::_,[],_,_,_,_,h,_,_=>by simp at h
 |v::vs,e::ds,x,d,hx,⟨k,n,a⟩,hl,hr,hi=>by
  cases e<;>try exact hi.elim
  rename_i k' m;subst a;have c:=hr 0 v _ rfl rfl;have f:=hx.fk;have e2:=c.fk;subst f;subst e2;obtain⟨u,g,j,o⟩:=X0 vs ds (.int k (if m>n then m else n)) (.int k (if m>n then m else n)) (.int _ _) ⟨_,_,rfl⟩ (by simpa using hl) (λi v e c p=>hr (i+1) v e c p) hi;refine⟨u,?_,j,o⟩;simp only[List.foldlM_cons,Sem.run_bind,Builtin.max2];exact g
theorem X3{V:Cx}:∀(vs:List Value)(ds:List D)(x:Value)(d:D),aO V x d->(∃k n,d=.int k n)->vs.length=ds.length->(∀(i:Nat) v e,vs[i]?=some v->ds[i]?=some e->aO V v e)->xh ds ->
  ∃u,(vs.foldlM Builtin.min2 x).run P w=.ok u w/\aO V u (ds.foldl TJ d)/\∃k n,ds.foldl TJ d=.int k n
 | [],[],x,d,hx,a,_,_,_=>⟨x,rfl,hx,a⟩
 | [],_::_,_,_,_,_,h,_,_=>by simp at h
 | _::_,[],_,_,_,_,h,_,_=>by simp at h
 |v::vs,e::ds,x,d,hx,⟨k,n,a⟩,hl,hr,hi=>by
  cases e<;>try exact hi.elim
  rename_i k' m;subst a;have c:=hr 0 v _ rfl rfl;have f:=hx.fk;have e2:=c.fk;subst f;subst e2;obtain⟨u,g,j,o⟩:=X3 vs ds (.int k (if m<n then m else n)) (.int k (if m<n then m else n)) (.int _ _) ⟨_,_,rfl⟩ (by simpa using hl) (λi v e c p=>hr (i+1) v e c p) hi;refine⟨u,?_,j,o⟩;simp only[List.foldlM_cons,Sem.run_bind,Builtin.min2];exact g


def run_sliceBound{v:Value}{i:Int}(f:v=.int k i)(a:0<=i)(c:i<=N)(code:BoundsCode)(w:World):(Instr.sliceBound v N code).run P w=.ok i.toNat w:=by
 subst f;simp only[Instr.sliceBound,Sem.run_bind,asIntOf,pure,Sem.run,Result.andThen_ok];rw[au ⟨a,c⟩];rfl
def DR(hr:∀o,aO V (oV o) (rd e o))(hN:N<=cap)(f:Rz e 0 lo=.int k l)(g:Rz e N hi=.int k' h)(j:0<=l)(hlh:l<=h)(hh:h<=cap)(a:Bool)(w:World) :
  (Instr.sliceBounds a N cap (lo.map oV) (hi.map oV) none).run P w=.ok (l.toNat,h.toNat,cap) w:=by
 have c:∀code,(match hi.map oV with|some v=>Instr.sliceBound v cap code|none=>pure N:Sem Nat).run P w=.ok h.toNat w:=by
  intro code;cases hi with
  |none =>
   simp only[Rz,D.int.injEq]at g;obtain⟨_,rfl⟩:=g;rfl
  |some o =>
   simp only[Rz]at g;have:=hr o;rw[g]at this;exact run_sliceBound this.fk (by omega) (by omega) code w
 have i:∀code,(match lo.map oV with|some v=>Instr.sliceBound v h.toNat code|none=>pure 0:Sem Nat).run P w=.ok l.toNat w:=by
  intro code;cases lo with
  |none =>
   simp only[Rz,D.int.injEq]at f;obtain⟨_,rfl⟩:=f;rfl
  |some o =>
   simp only[Rz]at f;have:=hr o;rw[f]at this;exact run_sliceBound this.fk j (by omega) code w
 have hh1:=c .sliceAcap;have hh2:=c .sliceAlen;have hl1:=i .sliceB;cases a<;>cases hi<;>cases lo<;>simp_all[Instr.sliceBounds,Sem.run_bind,Sem.run,pure]

def mz(hr:∀o,aO V (oV o) (rd e o))(n:N<=cap)(j:Rz e 0 lo=.int k l)(m:Rz e N hi=.int k' h)(i:0<=l)(g:l<=h)(p:h<=cap)
  (q:fD P t=.slice z b ea) (a:Option Addr) (w:World) :
  (Instr.sliceAt t (.slice a N cap) (lo.map oV) (hi.map oV) none).run P w=.ok (.slice (if cap=l.toNat then a else a.map (·.add (l.toNat*z))) (h.toNat-l.toNat) (cap-l.toNat)) w:=by
 obtain⟨el,inf,r,c,hin,hb,hz,_⟩:=fy q;have f:=DR (P:=P) hr n j m i g p true w;simp[Instr.sliceAt,Sem.run_bind,bQ r,Instr.slice,f,dJ c,Sem.run,pure]
def Iu(hr:∀o,aO V (oV o) (rd e o))(j:Rz e 0 lo=.int k l)(m:Rz e N hi=.int k' h)(i:0<=l)(g:l<=h)(n:h<=N)
  (p:fD P t=.arr N z ea) (a:Addr) (w:World) :
  (Instr.sliceAt t (.pointer (some a)) (lo.map oV) (hi.map oV) none).run P w=.ok (.slice (some (if N=l.toNat then a else a.add (l.toNat*z))) (h.toNat-l.toNat) (N-l.toNat)) w:=by
 obtain⟨el,q,c,hz⟩:=FH p;have f:=DR (P:=P) hr (fO N) j m i g n false w;simp[Instr.sliceAt,Sem.run_bind,bQ q,Instr.sureAddr,f,dJ c,Sem.run,pure]

def Z4(K:∀r z rows,env.o r=.own z rows->∃a cap,V.S r=some (.slice a rows.length cap)/\rows.length<=cap/\(a=none->rows=[]/\cap=0))(E:aO V x d)(hr:∀o,aO V (oV o) (rd env o))(h:ac7 env (fD P t) d lo hi)(w:World) :
  ∃u,(Instr.sliceAt t x (lo.map oV) (hi.map oV) none).run P w=.ok u w/\aO V u (slV env (fD P t) d lo hi):=by
 rcases Classical.em (∃r off z len cap,d=.dZ r off z len cap)with⟨r,off,z,len,bcap,rfl⟩|hnb
 ·unfold ac7 SlK at h;split at h<;>try exact h.elim
  rename_i N k l k' B f y g;obtain⟨A,n,m,_⟩:=h;cases c:fD P t<;>rw[c]at f g<;>simp only[slC]at f<;>(try(cases f;done));split at f<;>try(cases f;done)
  rename_i I ea H;cases f;subst H;simp only[I1,if_true]at g;have q:DV (some len)=(len:Int):=rfl;rw[q]at g;obtain⟨a,a',J,C,rfl,h3,Q,h5,rfl,h6⟩:=E.jm;refine⟨_,mz hr Q y g A n m c _ w,?_⟩;unfold slV;rw[y];simp only[I1,if_true,q,g,WB];refine .dZ r _ z _ _ a _ C ?_ (by omega);intro F;rw[h6 (by omega),aq (by omega)];simp only[Option.map_some,add_add]
 have R:slC env (fD P t) d=I1 env (fD P t) d:=by
  cases d<;>first|rfl|exact(hnb ⟨_,_,_,_,_,rfl⟩).elim
 unfold ac7 SlK at h;rw[R]at h;split at h<;>try exact h.elim
 rename_i N k l k' B f y g;obtain⟨A,n,m,_⟩:=h;have q:DV (some N)=(N:Int):=rfl;rw[f,q]at g;unfold slV;rw[f,q,y,g];simp only;cases d<;>simp only[I1]at f<;>(try(cases f;done))
 ·-- string
  rename_i s;cases c:fD P t<;>rw[c]at f<;>simp only at f<;>(try(cases f;done));cases f;rw[E.tK];refine⟨.string (s.extract l.toNat B.toNat),?_,.str _⟩;have T:=DR (P:=P) hr (fO s.size) y g A n m false w;simp[Instr.sliceAt,Sem.run_bind,bQ (FI c),Instr.slice,T,Sem.run,pure]
 ·-- nil
  cases c:fD P t<;>rw[c]at f<;>simp only at f<;>(try(cases f;done));cases f;cases E;refine⟨_,mz hr (fO 0) y g A n m c _ w,?_⟩;have:l.toNat=0/\B.toNat=0:=by omega
  rw[this.1,this.2];exact .nil
 ·cases c:fD P t<;>rw[c]at f<;>simp only at f<;>(try(cases f;done));cases f;cases E;refine⟨_,mz hr (fO 0) y g A n m c _ w,?_⟩;have:l.toNat=0/\B.toNat=0:=by omega
  rw[this.1,this.2];exact .emp _
 ·-- rows that stay
  rename_i z rows;cases c:fD P t<;>rw[c]at f<;>simp only at f<;>(try(cases f;done));split at f<;>try(cases f;done)
  rename_i I ea H;cases f;subst H;obtain⟨a,cap,rfl,v,X,hk,p,hc⟩:=E.DW;refine⟨_,mz hr v y g A n (by omega) c _ w,?_⟩;simp only[WB];have D:((rows.take B.toNat).drop l.toNat).length=B.toNat-l.toNat:=by simp;omega
  cases a with
  |none =>
   obtain⟨rfl,rfl⟩:=p rfl;have:l.toNat=0/\B.toNat=0:=by simp at m;omega
   rw[this.1,this.2];exact .slnil _
  |some ad =>
   rw[<-D];by_cases O:cap=l.toNat
   ·have:B.toNat=l.toNat:=by omega
    rw[au O,this];have e0:(rows.take l.toNat).drop l.toNat=[]:=by simp
    rw[e0];exact nY (rows:=[]) (by simp) (by simp) (by simp) (by simp)
   ·rw[aq O];refine nY (by rw[D];omega) (λr hr=>X r (List.mem_of_mem_take (List.mem_of_mem_drop hr))) (λr hr=>hk r (List.mem_of_mem_take (List.mem_of_mem_drop hr))) ?_;intro i j r d hi hj;rw[List.getElem?_drop]at hi;have U:rows[l.toNat+i]?=some r:=by
     have W:l.toNat+i<B.toNat:=by
      have:=(ia.1 hi).1;simp at this;omega
     rwa[List.getElem?_take_of_lt W]at hi
    obtain⟨u,Z,Y⟩:=hc ad rfl _ j r d U hj;refine⟨u,?_,Y⟩;rw[add_add,show l.toNat*z+(i*z+j)=(l.toNat+i)*z+j by rw[Nat.add_mul];omega];exact Z
 ·-- of the frame's own
  rename_i r;cases c:fD P t<;>rw[c]at f<;>simp only at f<;>(try(cases f;done));split at f<;>try(cases f;done)
  rename_i z' I ea z rows ho;split at f<;>try(cases f;done)
  rename_i H;cases f;subst H;obtain⟨a,cap,C,v,p⟩:=K r z rows ho;obtain⟨M,_⟩:=E.rI;rw[C]at M;cases M;refine⟨_,mz hr v y g A n (by omega) c _ w,?_⟩;simp only[WB,ho]
  refine .gl r z _ _ a _ _ cap _ C ?_ (by omega) (λe=>by
   have:a=none:=by revert e;split<;>simp
   rw[(p this).2];omega)
  intro F;cases a with
  |none=>rw[(p rfl).1]at m;simp at m;omega
  |some b=>exact⟨b,rfl,by rw[aq (by omega)];rfl⟩
 ·-- a pointer to an array
  rename_i r off;cases c:fD P t<;>rw[c]at f<;>simp only at f<;>(try(cases f;done));cases f;obtain⟨a,C,rfl⟩:=E.ng;refine⟨_,Iu hr y g A n m c _ w,?_⟩;simp only[WB,c];refine .dZ r _ _ _ _ a _ C ?_ (by omega);intro F;rw[aq (by omega),add_add]
 ·rename_i r z lo' len;cases c:fD P t<;>rw[c]at f<;>simp only at f<;>(try(cases f;done));split at f<;>try(cases f;done)
  rename_i H;cases f;subst H;obtain⟨a,a',L,cap,J,C,rfl,h3,Q,h5⟩:=E.pS;refine⟨_,mz hr Q y g A n (by omega) c _ w,?_⟩;simp only[WB]
  refine .gl r z _ _ a _ _ cap _ C ?_ (by omega) (λe=>by
   have:a'=none:=by revert e;split<;>simp
   rw[h5 this];omega)
  intro F;obtain⟨b,rfl,rfl⟩:=h3 (by omega);refine⟨b,rfl,?_⟩;rw[aq (by omega)];simp only[Option.map_some,add_add,Nat.add_mul]
 ·exact(hnb ⟨_,_,_,_,_,rfl⟩).elim

def afM(p:∀r z rows,env.o r=.own z rows->∃a cap,V.S r=some (.slice a rows.length cap)){ty:TypeId}(g:aO V x d)(h:EP env (fD P t) d) :
  ∃u,(Builtin.len_ #[t] ty #[x]).run P w=.ok u w/\aO V u (QF env (fD P t) d):=by
 cases f:fD P t<;>rw[f]at h<;>try(simp only[EP]at h;done)
 case str =>
  cases d<;>simp only[EP,isStr]at h;rw[g.tK];exact⟨.int .i64 _,by simp[Builtin.len_,Sem.run_bind,bQ (FI f),goInt,Sem.run,pure],.int _ _⟩
 case slice z by_ ea =>
  obtain⟨e,i,y,_⟩:=fy f;have j:∀a n c,x=.slice a n c->QF env (.slice z by_ ea) d=.int .i64 n->∃u,(Builtin.len_ #[t] ty #[x]).run P w=.ok u w/\aO V u (QF env (.slice z by_ ea) d):=by
   rintro a n c rfl e;rw[e];exact⟨.int .i64 n,by simp[Builtin.len_,Sem.run_bind,bQ y,goInt,Sem.run,pure],.int _ _⟩
  cases d<;>simp only[EP,Kw]at h
  ·cases g;exact j _ _ _ rfl rfl
  ·cases g;exact j _ _ _ rfl rfl
  ·obtain⟨a,cap,rfl,_⟩:=g.DW;exact j _ _ _ rfl rfl
  ·rename_i r;cases v:env.o r<;>rw[v]at h<;>simp only[EV]at h;rename_i E rows;obtain⟨a,cap,s⟩:=p r E rows v;obtain⟨q,_⟩:=g.rI;rw[s]at q;cases q;exact j _ _ _ rfl (by simp[QF,ab2,v,IU])
  ·obtain⟨a,A,L,cap,m,s,rfl,B,C,D⟩:=g.pS;exact j _ _ _ rfl rfl
  ·obtain⟨a,A,m,s,rfl,B,C,D⟩:=g.jm;exact j _ _ _ rfl rfl
 case arr n z ea =>
  obtain⟨e,y,_⟩:=FH f;exact⟨.int .i64 n,by simp[Builtin.len_,Sem.run_bind,bQ y,goInt,Sem.run,pure],.int _ _⟩
end
end Go.Abs
namespace Go.Abs
open List

variable{b:Bool}{c:Addr}{t:TypeId}{a:Nat}
section
variable{P:Program}{w0 w w':World}{l0:Nat->Option Nat}{G:Nat->Option (Nat×Nat)}{S0:Nat->Option Value}{lev lev' own own':Nat->Option Nat}{S S':Nat->Option Value}{env env':Env}{tm tm':Nat->Value}

def vO{V:Cx}{z:Nat}(j:fD P t=.slice z a b){len cap:Nat}{i:Value}{k:IntKind}{n:Int}(g:aO V i (.int k n))(d:0<=n)(f:n<len) :
  (Instr.indexAt t (.slice (some c) len cap) i).run P w=.ok (.pointer (some (c.add (n.toNat*z)))) w:=by
 obtain⟨e,inf,l,h,hin,hb,hz,_⟩:=fy j;rw[g.fk];simp[Instr.indexAt,Sem.run_bind,asIntOf,bQ l,d,f,dJ h,Sem.run,pure]

def abX(h:Inv w0 l0 G S0 w lev own S env tm){l:HR}(s:jx P t=some l){x:Value}{d:D}(y:aO (cx w lev S) x d)(ok:QB env l d) :
  ∃u,(Instr.loadAt t x).run P w=.ok u w/\aO (cx w lev S) u (ldV env l d):=by
 cases d<;>simp only[QB]at ok
 ·rename_i cs;obtain⟨e,p,g⟩:=ok;exact Rw (λ_ _=>uc) s y e p g
 ·rename_i r off;cases f:env.o r<;>rw[f]at ok<;>simp only[XC]at ok;rename_i cs;obtain⟨e,p,g⟩:=ok;obtain⟨a,q,rfl⟩:=y.ng;have:=Fq (P:=P) (w:=w) (V:=cx w lev S) s (a:=a) (h.NR f q) e p g;simpa[ldV,f,ldB]using this
 ·rename_i r z i k;cases f:env.o r<;>rw[f]at ok<;>simp only[XD]at ok;rename_i E rows;obtain⟨rfl,e,p,g,A⟩:=ok;obtain⟨a,len,cap,q,rfl⟩:=y.oQ;obtain⟨a',cap',m,_,hpm,v,_,B⟩:=h.EW f;simp only[cx]at q;rw[q]at m;cases m;have n:rows.getD i []=rows[i]:=by simp[getD,e]
  have hz:=v _ (dH e)
  have:=Fq (P:=P) (w:=w) (V:=cx w lev S) s (a:=a.add (i*E)) (cs:=rows[i]) (o:=k) (λj d C=>by
   rw[add_add]
   exact B a rfl i j _ d (gF e) C) (by omega) g A
  rw[add_add]at this;simp only[ldV,f,ldW];rw[n];exact this

def pure_run{a:Act}(h:Inv w0 l0 G S0 w lev own S env (oY a.tmps))(o:Oper)(ok:fq P env o.op) :
  ∃u,(execOp a.eval o).run P w=.ok (.value u) w/\aO (cx w lev S) u (iA P env o.op):=by
 have g:∀x,aO (cx w lev S) (a.eval x) (rd env x):=λx=>h.yR a rfl x;have hV:∀E v,vis w lev E=some v->w.cell? E=some v:=λE v=>uc;have Y:∀r z rows,env.o r=.own z rows->∃a cap,S r=some (.slice a rows.length cap)/\rows.length<=cap/\(a=none->rows=[]/\cap=0):=by
  intro r z rows ho;obtain⟨a,cap,H,h2,_,_,h3,_⟩:=h.EW ho;exact⟨a,cap,H,h2,h3⟩
 cases ho:o.op<;>rw[ho]at ok<;>(try exact ok.elim)<;>simp only[execOp,ho]
 case move x=>exact⟨a.eval x,rfl,g x⟩
 case assign x=>exact⟨a.eval x,rfl,g x⟩
 case pick c x y =>
  simp only[fq]at ok;have hb:=g c;cases hc:rd env c<;>rw[hc]at ok hb<;>try exact ok.elim
  rename_i p;have B:=hb.og;refine⟨if p then a.eval x else a.eval y,?_,?_⟩
  ·simp[B,asBool,Sem.run_bind,Sem.run,pure]
  ·simp only[iA,hc];cases p
   ·exact g y
   ·exact g x
 case binOp op t x y yt =>
  simp only[fq]at ok;obtain⟨u,hr,D⟩:=Wu (g x) (g y) ok w;have hg:=Rv (g x) (g y) ok w;exact⟨u,mN (by simp[Sem.run_bind,hg,hr]),D⟩
 case unOp op t x =>
  simp only[fq]at ok;obtain⟨u,hr,D⟩:=Z5 (g x) ok w;exact⟨u,mN hr,D⟩
 case convert s d x =>
  simp only[fq]at ok;obtain⟨u,hr,D⟩:=Uz (g x) ok w;exact⟨u,mN hr,D⟩
 case fieldAddr t x f =>
  simp only[fq]at ok;simp only[iA];cases I:fD P t<;>rw[I]at ok<;>try exact ok.elim
  rename_i fs;simp only at ok |-;have Q:=g x;cases K:rd env x<;>rw[K]at ok Q<;>try exact ok.elim
  ·rename_i cs;obtain⟨u,hr,D⟩:=afK (w:=w) I ok Q;exact⟨u,mN hr,D⟩
  ·rename_i r off;obtain⟨E,R,B⟩:=Q.ng;rw[B];refine⟨_,mN (BU I ok),?_⟩;rw[add_add];exact .addr r _ E R
  ·rename_i r z i k;obtain⟨E,len,cap,R,B⟩:=Q.oQ;rw[B];refine⟨_,mN (BU I ok),?_⟩;rw[add_add,Nat.add_assoc];exact .dO r z i _ E len cap R
 case field t x f =>
  simp only[fq]at ok;simp only[iA];cases I:fD P t<;>rw[I]at ok<;>try exact ok.elim
  rename_i fs;simp only at ok |-;have Q:=g x;cases K:rd env x<;>rw[K]at ok Q<;>try exact ok.elim
  obtain⟨u,hr,D⟩:=Z2 (w:=w) I Q ok;exact⟨u,mN hr,D⟩
 case indexAddr t x i =>
  simp only[fq]at ok;simp only[iA];have r1:=g x;have r2:=g i;cases K:rd env x<;>rw[K]at ok r1<;>(try(simp only[S6]at ok;done))<;>cases J:rd env i<;>rw[J]at ok r2<;>(try(simp only[S6]at ok;done))<;>simp only[S6]at ok
  ·rename_i z rows k n;obtain⟨I,O,H⟩:=ok;cases A:fD P t<;>rw[A]at I<;>try exact I.elim
   have aa:z=_:=I;subst aa;obtain⟨u,hr,D⟩:=run_indexAt_slice (w:=w) A r1 r2 O H;exact⟨u,mN hr,D⟩
  ·rename_i cs k n;cases A:fD P t<;>rw[A]at ok<;>try exact ok.elim
   rename_i m z ea;obtain⟨O,H⟩:=ok;obtain⟨E,B,hn,hc⟩:=r1.sJ;rw[B];refine⟨_,mN (ux A r2 O H),?_⟩;simp only[Y4];refine qz (λd hd=>hn d (mem_of_mem_drop hd)) ?_;intro j d hj;rw[getElem?_drop]at hj;rw[add_add];exact hc _ d hj
  ·rename_i r k n;obtain⟨O,ok⟩:=ok;cases A:fD P t<;>rw[A]at ok<;>try exact ok.elim
   rename_i z by_ ea;simp only at ok;cases ap:env.o r<;>rw[ap]at ok<;>simp only[XS]at ok;rename_i z' rows;obtain⟨rfl,H⟩:=ok;obtain⟨E,cap,R,_,af⟩:=Y r z' rows ap;obtain⟨ab,_⟩:=r1.rI;simp only[cx]at ab;rw[R]at ab;have B:a.eval x=.slice E rows.length cap:=(Option.some.inj ab).symm;cases E with
   |none=>rw[(af rfl).1]at H;simp at H;omega
   |some E =>
    rw[B];refine⟨_,mN (vO A r2 O H),?_⟩;simp only[Y4];exact .dO r z' n.toNat 0 E _ _ R
  ·rename_i r off k n;cases A:fD P t<;>rw[A]at ok<;>try exact ok.elim
   rename_i m z ea;obtain⟨O,H⟩:=ok;obtain⟨E,R,B⟩:=r1.ng;rw[B];refine⟨_,mN (ux A r2 O H),?_⟩;simp only[Y4];rw[add_add];exact .addr r _ E R
  ·rename_i r z j k' k n;cases A:fD P t<;>rw[A]at ok<;>try exact ok.elim
   rename_i m z' ea;obtain⟨O,H⟩:=ok;obtain⟨E,len,cap,R,B⟩:=r1.oQ;rw[B];refine⟨_,mN (ux A r2 O H),?_⟩;simp only[Y4];rw[add_add,Nat.add_assoc];exact .dO r z j _ E len cap R
  ·rename_i r z lo len k n;obtain⟨I,O,H⟩:=ok;cases A:fD P t<;>rw[A]at I<;>try exact I.elim
   have aa:z=_:=I;subst aa;obtain⟨E,a',L,cap,am,R,B,h3,h4,_⟩:=r1.pS;obtain⟨b,rfl,rfl⟩:=h3 (by omega);rw[B];refine⟨_,mN (vO A r2 O H),?_⟩;simp only[Y4];rw[add_add,<-Nat.add_mul];have:=aO.dO (C:=cx w lev S) r z (lo+n.toNat) 0 b _ _ R;simpa using this
  ·rename_i r off z len bcap k n;obtain⟨I,O,H⟩:=ok;cases A:fD P t<;>rw[A]at I<;>try exact I.elim
   have aa:z=_:=I;subst aa;obtain⟨E,a',am,R,B,h3,h4,_⟩:=r1.jm;rw[h3 (by omega)]at B;rw[B];refine⟨_,mN (vO A r2 O H),?_⟩;simp only[Y4];rw[add_add];exact .addr r _ E R
 case index t x i =>
  simp only[fq]at ok;simp only[iA]
  suffices hs:∃u,(Instr.index t (a.eval x) (a.eval i)).run P w=.ok u w/\aO (cx w lev S) u (ixV (fD P t) (rd env x) (rd env i))by
   obtain⟨u,hr,D⟩:=hs;exact⟨u,mN hr,D⟩
  have r1:=g x;have r2:=g i;cases K:rd env x<;>rw[K]at ok r1<;>(try(simp only[Tk]at ok;done))<;>cases J:rd env i<;>rw[J]at ok r2<;>(try(simp only[Tk]at ok;done))
  ·obtain⟨I,O,H⟩:=ok;exact Nw (w:=w) I r1 r2 O H
  ·rename_i cs k n;simp only[Tk]at ok;cases A:fD P t<;>rw[A]at ok<;>try exact ok.elim
   obtain⟨O,H,h2⟩:=ok;exact Nv (w:=w) A r1 r2 O H h2
 case load t x =>
  simp only[fq]at ok;simp only[iA];cases W:jx P t with
  |none=>rw[W]at ok;exact ok.elim
  |some l =>
   rw[W]at ok;obtain⟨u,hr,D⟩:=abX h W (g x) ok;exact⟨u,mN hr,D⟩
 case nilCheck x =>
  simp only[fq]at ok;simp only[iA];have hr:=g x;cases K:rd env x<;>rw[K]at ok hr<;>try exact ok.elim
  ·obtain⟨vs,B,_⟩:=hr.Du;rw[B]at hr |-;exact⟨_,rfl,hr⟩
  ·obtain⟨E,B,_⟩:=hr.sJ;rw[B]at hr |-;exact⟨_,rfl,hr⟩
  ·obtain⟨E,_,B⟩:=hr.ng;rw[B]at hr |-;exact⟨_,rfl,hr⟩
  ·obtain⟨E,_,_,_,B⟩:=hr.oQ;rw[B]at hr |-;exact⟨_,rfl,hr⟩
 case extract x i =>
  simp only[fq]at ok;simp only[iA];have r1:=g x;cases K:rd env x<;>rw[K]at ok r1<;>try exact ok.elim
  rename_i ds;obtain⟨vs,B,hs,hc⟩:=r1.FG;simp only at ok |-;have Z:i<vs.size:=by omega
  have ax:(Instr.extract (a.eval x) i).run P w=.ok vs[i] w:=by simp[B,Instr.extract,Z,Sem.run,pure]
  refine⟨vs[i],mN ax,?_⟩;have hd:ds.getD i .undef=ds[i]:=by simp[getD,ok]
  rw[hd];exact hc i vs[i] ds[i] (by simp[Z]) (gF ok)
 case build t parts =>
  simp only[fq]at ok;obtain⟨I,z,X,ac⟩:=ok;simp only[iA,X]
  suffices hs:∃u,(Instr.build t (parts.map λx=>(x.1,a.eval x.2))).run P w=.ok u w/\aO (cx w lev S) u (.agg (pR z (gL P env t parts.toList)))by
   obtain⟨u,hr,D⟩:=hs;exact⟨u,mN hr,D⟩
  have ah:∃zv,(zeroValue t).run P w=.ok zv w/\zv.cells.size=z.length/\∀(i:Nat) v d,zv.cells[i]?=some v->z[i]?=some d->aO (cx w lev S) v d:=by
   unfold oI at X;cases J:P.info? t with
   |none=>rw[J]at X;cases X
   |some au =>
    simp only[J]at X;cases aj:au.zero with
    |none=>rw[aj]at X;cases X
    |some zv =>
     rw[aj]at X;cases X;refine⟨zv,by simp[zeroValue,Sem.run_bind,nA J,aj,Sem.run,pure],by simp,?_⟩;intro i v d B hd;simp only[getElem?_map]at hd;have:zv.cells.toList[i]?=some v:=by simpa using B
     rw[this]at hd;simp at hd;subst hd;exact wI v
  obtain⟨zv,ar,aD,ai⟩:=ah;have T:∀(pl:Nat->Option (Nat×Nat)),(∀(k:Nat) p q,parts.toList[k]?=some p->(gL P env t parts.toList)[k]?=some q->pl p.1=some (q.1,q.2.1)/\q.2.2=rd env p.2)->(gL P env t parts.toList).length=parts.toList.length ->
    ∃N,Instr.fill pl zv.cells (parts.map λx=>(x.1,a.eval x.2)).toList=some N/\aO (cx w lev S) (.agg N) (.agg (pR z (gL P env t parts.toList))):=by
   intro pl aA ao
   obtain⟨N,e1,e2,e3⟩:=LM (V:=cx w lev S) pl (parts.map λx=>(x.1,a.eval x.2)).toList (gL P env t parts.toList) zv.cells z (by simpa using ao.symm) aD ai (by
    intro k p q hp hq;simp only[Array.toList_map,getElem?_map]at hp;cases ag:parts.toList[k]? with
    |none=>rw[ag]at hp;cases hp
    |some p0 =>
     rw[ag]at hp;cases hp;obtain⟨f1,f2⟩:=aA k p0 q ag hq
     exact⟨f1,by rw[f2];exact g p0.2⟩) ac
   exact⟨N,e1,.agg _ _ e2 e3⟩
  cases A:fD P t<;>rw[A]at I<;>try exact I.elim
  ·rename_i n z' ea;obtain⟨e,D,W,hz0⟩:=FH A
   obtain⟨N,e1,e2⟩:=T (λi=>some (i*z',z')) (by
    intro k p q hp hq;simp only[gL,A,getElem?_map,hp,Option.map_some,qN]at hq;subst hq
    exact⟨rfl,rfl⟩) (by simp[gL,A])
   refine⟨.agg N,?_,e2⟩;simp only[Instr.build,Sem.run_bind,ar,bQ D,dJ W,Result.andThen_ok,e1];rfl
  ·rename_i fs;obtain⟨fa,D,ay⟩:=D7 A;obtain⟨ps,aB,az⟩:=afu (P:=P) ay w
   obtain⟨N,e1,e2⟩:=T (λi=>ps[i]?) (by
    intro k p q hp hq;simp only[gL,A,getElem?_map,hp,Option.map_some,qN]at hq;have Z:=I p (fC hp);rw[gF Z]at hq;subst hq;refine⟨?_,rfl⟩
    rw[az,gF Z];rfl) (by simp[gL,A])
   refine⟨.agg N,?_,e2⟩;simp only[Instr.build,Sem.run_bind,ar,bQ D,Result.andThen_ok];have aq:(fa.mapM (λf=>do pure (f.offset,<-sizeOf f.type):Field->Sem (Nat×Nat))).run P w=.ok ps w:=aB;rw[aq];simp only[Result.andThen_ok,e1];rfl
 case slice t x lo J mx =>
  cases mx with
  |none =>
   simp only[fq]at ok;obtain⟨u,hr,D⟩:=Z4 (V:=cx w lev S) Y (g x) (oV:=a.eval) g ok w;exact⟨u,mN hr,D⟩
  |some m =>
   cases lo with
   |some l=>simp only[fq]at ok
   |none =>
   cases J with
   |none=>simp only[fq]at ok
   |some H =>
    simp only[fq]at ok;obtain⟨av,aw,ak,al⟩:=ok;have rh:=g H;have rm:=g m;cases e1:rd env H<;>rw[e1]at ak rh<;>simp only[isZero]at ak;cases e2:rd env m<;>rw[e2]at al rm<;>simp only[isZero]at al;subst ak;subst al;have X:∀(v:Value)(k:IntKind)(y:Nat)(code:BoundsCode),v=.int k 0->(Instr.sliceBound v y code).run P w=.ok 0 w:=λv k y code B=>run_sliceBound B (by omega) (by omega) code w;have b1:=λy code=>X _ _ y code rh.fk;have b2:=λy code=>X _ _ y code rm.fk;have aC:∃E len cap,a.eval x=.slice E len cap:=by
     have r1:=g x;generalize a.eval x=v at r1;cases K:rd env x<;>rw[K]at aw r1<;>simp only[agZ]at aw
     ·cases r1;exact⟨_,_,_,rfl⟩
     ·cases r1;exact⟨_,_,_,rfl⟩
     ·obtain⟨_,_,h,_⟩:=r1.DW;exact⟨_,_,_,h⟩
     ·obtain⟨_,_,_,_,h⟩:=r1.rI;exact⟨_,_,_,h⟩
     ·obtain⟨_,_,_,_,_,_,h,_⟩:=r1.pS;exact⟨_,_,_,h⟩
     ·obtain⟨_,_,_,_,h,_⟩:=r1.jm;exact⟨_,_,_,h⟩
    obtain⟨E,len,cap,B⟩:=aC;cases A:fD P t<;>rw[A]at av<;>simp only[abS]at av;obtain⟨el,au,D,an,hin,hb,X,_⟩:=fy A;refine⟨.slice E 0 0,mN ?_,.emp _⟩;rw[B];simp[Instr.sliceAt,Sem.run_bind,bQ D,Instr.slice,Instr.sliceBounds,b1,b2,dJ an,Sem.run,pure]
 case makeFunc fn first caps =>
  cases fn<;>simp only[fq]at ok;subst ok;rename_i f;refine⟨.func (.func f) #[] (caps.map a.eval),?_,?_⟩
  ·exact mN (by simp[Instr.makeFunc,Sem.run,pure])
  ·simp only[iA];refine .fn f _ _ (by simp) ?_;intro i v x B K;simp only[Array.getElem?_map,getElem?_map]at B K;have hc:caps[i]?=caps.toList[i]?:=by simp
   rw[hc]at B;cases hy:caps.toList[i]? with
   |none=>rw[hy]at B;cases B
   |some y =>
    rw[hy]at B K;cases B;cases K;exact g y
 case call c =>
  simp only[fq]at ok;simp only[iA];cases M:c.callee with
  |value f=>rw[M]at ok;exact ok.elim
  |invoke r m=>rw[M]at ok;exact ok.elim
  |builtin bi =>
  rw[M]at ok;cases bi<;>try exact ok.elim
  ·-- len
   cases F:c.args.toList with
   |nil=>rw[F]at ok;exact ok.elim
   |cons x l1 =>
   cases l1 with
   |cons y l2=>rw[F]at ok;exact ok.elim
   |nil =>
   cases U:c.argTypes.toList with
   |nil=>rw[F,U]at ok;exact ok.elim
   |cons t l1 =>
   cases l1 with
   |cons y l2=>rw[F,U]at ok;exact ok.elim
   |nil =>
   rw[F,U]at ok;simp only at ok |-;have e1:=ahb F;have e2:=ahb U;obtain⟨u,hr,D⟩:=afM (P:=P) (w:=w) (ty:=o.type) (V:=cx w lev S) (λr z rows ho=>by obtain⟨a,c,H,_⟩:=Y r z rows ho;exact⟨a,c,H⟩) (g x) ok;refine⟨u,?_,D⟩;have hm:c.args.map a.eval = #[a.eval x]:=by rw[e1];simp
   simp only[resolve,M,Sem.run_bind,pure,Sem.run,Result.andThen_ok,invoke,builtin,hm,e2,hr]
  ·obtain⟨ae,J⟩:=ok;simp only;cases W:c.args.toList with
   |nil=>exact(ae W).elim
   |cons x l' =>
    rw[W]at J;simp only[map_cons]at J |-;have r1:=g x;cases K:rd env x<;>rw[K]at J r1<;>try exact J.elim
    rename_i k n
    obtain⟨u,hr,D,k',n',hk⟩:=X0 (P:=P) (w:=w) (V:=cx w lev S) (l'.map a.eval) (l'.map (rd env)) (a.eval x) (.int k n) r1 ⟨_,_,rfl⟩ (by simp) (by
     intro i v e B he;simp only[getElem?_map]at B he;cases hy:l'[i]? with
     |none=>rw[hy]at B;cases B
     |some y =>
      rw[hy]at B he;cases B;cases he
      exact g y) J
    refine⟨u,?_,D⟩;have hm:(c.args.map a.eval).toList=a.eval x::l'.map a.eval:=by simp[W]
    simp only[resolve,M,Sem.run_bind,pure,Sem.run,Result.andThen_ok,invoke,builtin,Builtin.max_,hm,hr]
  ·obtain⟨ae,J⟩:=ok;simp only;cases W:c.args.toList with
   |nil=>exact(ae W).elim
   |cons x l' =>
    rw[W]at J;simp only[map_cons]at J |-;have r1:=g x;cases K:rd env x<;>rw[K]at J r1<;>try exact J.elim
    rename_i k n
    obtain⟨u,hr,D,k',n',hk⟩:=X3 (P:=P) (w:=w) (V:=cx w lev S) (l'.map a.eval) (l'.map (rd env)) (a.eval x) (.int k n) r1 ⟨_,_,rfl⟩ (by simp) (by
     intro i v e B he;simp only[getElem?_map]at B he;cases hy:l'[i]? with
     |none=>rw[hy]at B;cases B
     |some y =>
      rw[hy]at B he;cases B;cases he
      exact g y) J
    refine⟨u,?_,D⟩;have hm:(c.args.map a.eval).toList=a.eval x::l'.map a.eval:=by simp[W]
    simp only[resolve,M,Sem.run_bind,pure,Sem.run,Result.andThen_ok,invoke,builtin,Builtin.min_,hm,hr]
end
end Go.Abs
namespace Go.Abs
open List

def nm(d k:Nat):Nat:=16*(d+1)+k
def C0(d k:Nat):16<=nm d k:=by unfold nm;omega

def idx:List Nat->Nat->Option Nat
 | [],_=>none
 |g::gs,r=>if g=r then some 0 else(idx gs r).map (· + 1)
theorem x8:∀{gs:List Nat} {r i:Nat},idx gs r=some i->gs[i]?=some r
 | [],r,i,h=>by simp[idx]at h
 |g::gs,r,i,h=>by
  unfold idx at h;split at h
  ·cases h;simp_all
  ·cases e:idx gs r with
   |none=>rw[e]at h;cases h
   |some j=>rw[e]at h;cases h;simpa using x8 e
theorem VR:∀{gs:List Nat} {r i:Nat},gs.Nodup->gs[i]?=some r->idx gs r=some i
 | [],r,i,_,h=>by simp at h
 |g::gs,r,0,hn,h=>by simp at h;subst h;simp[idx]
 |g::gs,r,i+1,hn,h=>by
  simp at h;have a:=nodup_cons.1 hn;have:g≠r:=by rintro rfl;exact a.1 (fC h)
  simp[idx,this,VR a.2 h]
variable{r:Nat}
theorem aeV{gs:List Nat}:r∈gs->∃i,idx gs r=some i:=by
 induction gs with
 |nil=>intro h;cases h
 |cons g gs ih =>
  intro h;unfold idx;by_cases e:g=r
  ·simp[e]
  ·simp only[e,if_false];rcases mem_cons.1 h with h|h
   ·exact(e h.symm).elim
   ·obtain⟨i,hi⟩:=ih h;exact⟨i+1,by simp[hi]⟩

mutual
/-- other names for the objects; what has none is forgotten -/
def D.oU(f:Nat->Option Nat):D->D
 | .fn g cs=>.fn g (D.yG f cs)
 | .agg cs=>.agg (D.yG f cs)
 | .bD cs=>.bD (D.yG f cs)
 | .box cs=>.box (D.yG f cs)
 | .ref s=>match f s with|some r=>.ref r|none=>.undef
 | .addr s o=>match f s with|some r=>.addr r o|none=>.undef
 | .dO s z i k=>match f s with|some r=>.dO r z i k|none=>.undef
 | .gl s z l n=>match f s with|some r=>.gl r z l n|none=>.undef
 | .dZ s o z n c=>match f s with|some r=>.dZ r o z n c|none=>.undef
 |d=>d
def D.yG(f:Nat->Option Nat):List D->List D
 | []=>[]
 |d::l=>d.oU f::D.yG f l
end
theorem Ly(f:Nat->Option Nat):∀cs:List D,D.yG f cs=cs.map (D.oU f)
 | []=>rfl
 |d::l=>by rw[D.yG,Ly f l];rfl
theorem aO.oU{C C':Cx}{f:Nat->Option Nat}(A:∀a v,C.V a=some v->C'.V a=some v){v:Value}{d:D}(r:aO C v d)(l:∀s∈d.names,∀t,f s=some t->∀u,C.S s=some u->C'.S t=some u):aO C' v (d.oU f):=by
 have q:∀(vs:Array Value)(ds:List D),vs.size=ds.length->(∀(i:Nat) v d,vs[i]?=some v->ds[i]?=some d->(∀s∈d.names,∀t,f s=some t->∀u,C.S s=some u->C'.S t=some u)->aO C' v (d.oU f)) ->
   (∀s∈D.cq ds,∀t,f s=some t->∀u,C.S s=some u->C'.S t=some u)->vs.size=(D.yG f ds).length/\∀(i:Nat) v d,vs[i]?=some v->(D.yG f ds)[i]?=some d->aO C' v d:=by
  intro vs ds o p l;rw[Ly];refine⟨by simpa using o,?_⟩;intro i v d hi y;simp only[getElem?_map]at y;cases e:ds[i]? with
  |none=>rw[e]at y;cases y
  |some x=>rw[e]at y;cases y;exact p i v x hi e λs j=>l s (fZ.2 ⟨x,fC e,j⟩)
 induction r with
 |fn g vs ds o h p=>obtain⟨c,m⟩:=q vs ds o p (λs j=>l s (by simp only[D.names];exact j));simp only[D.oU];exact .fn g vs _ c m
 |agg vs ds o _ p=>obtain⟨c,m⟩:=q vs ds o p (λs j=>l s (by simp only[D.names];exact j));simp only[D.oU];exact .agg vs _ c m
 |bD vs ds o _ p=>obtain⟨c,m⟩:=q vs ds o p (λs j=>l s (by simp only[D.names];exact j));simp only[D.oU];exact .bD vs _ c m
 |undef v=>exact .undef v
 |bool b=>exact .bool b
 |int k n=>exact .int k n
 |str s=>exact .str s
 |nil=>exact .nil
 |emp a=>exact .emp a
 |ot=>exact .ot
 |iZ=>exact .iZ
 |jW t v=>exact .jW t v
 |qP=>exact .qP
 |slnil z=>exact .slnil z
 |sl z a cap rows g o hz hk hc c _ =>
  exact aO.keep (d:=.sl z rows) A (.sl z a cap rows g o hz hk hc c) (λs j=>by simp[D.names]at j)
 |bG a cs g hn hc c _=>exact aO.keep (d:=.bG cs) A (.bG a cs g hn hc c) (λs j=>by simp[D.names]at j)
 |ref s a len cap h =>
  simp only[D.oU];split
  ·rename_i t e;exact .ref t a len cap (l s (by simp[D.names]) t e _ h)
  ·exact .undef _
 |addr s off a h =>
  simp only[D.oU];split
  ·rename_i t e;exact .addr t off a (l s (by simp[D.names]) t e _ h)
  ·exact .undef _
 |dO s z i k a len cap h =>
  simp only[D.oU];split
  ·rename_i t e;exact .dO t z i k a len cap (l s (by simp[D.names]) t e _ h)
  ·exact .undef _
 |gl s z lo len a a' L cap cap' h c m h3 =>
  simp only[D.oU];split
  ·rename_i t e;exact .gl t z lo len a a' L cap cap' (l s (by simp[D.names]) t e _ h) c m h3
  ·exact .undef _
 |dZ s off z len cap a a' h c m =>
  simp only[D.oU];split
  ·rename_i t e;exact .dZ t off z len cap a a' (l s (by simp[D.names]) t e _ h) c m
  ·exact .undef _

def vZ:D->D
 | .own z rows=>.sl z rows
 | _=>.undef
def xR(z i k:Nat):D->D
 | .own z' rows=>if z'=z/\i<rows.length then .bG ((rows.getD i []).drop k)else .undef
 | _=>.undef
def qo(z lo len:Nat):D->D
 | .own z' rows=>if z'=z/\lo+len<=rows.length then .sl z ((rows.drop lo).take len)else .undef
 | _=>.undef
def KV:D->Bool
 | .undef| .agg _| .bD _| .box _| .own _ _=>false
 |d=>d.names.isEmpty
def ni(off z len:Nat):D->D
 | .box cs=>if((cs.drop off).take (len*z)).all KV&&decide (off+len*z<=cs.length)then .sl z (rowsOf z len (cs.drop off))else .undef
 | _=>.undef
def qn(f:D->D)(off:Nat):D->D
 | .box cs=>.bG ((cs.drop off).map f)
 | _=>.undef
def eg(b:Bool)(d:D):D:=if b then .undef else d
def sR(d:D):D:=if d.names.isEmpty then d else .undef
def qS(o:Nat->D)(x:List Nat):Nat->D->D
 | 0,d=>sR d
 |k+1,.ref r=>eg (x.contains r) (vZ (o r))
 |k+1,.addr r off=>eg (x.contains r) (qn (qS o x k) off (o r))
 |k+1,.dO r z i j=>eg (x.contains r) (xR z i j (o r))
 |k+1,.gl r z lo len=>eg (x.contains r) (qo z lo len (o r))
 |k+1,.dZ r off z len _=>eg (x.contains r) (ni off z len (o r))
 |k+1,.fn f cs=>.fn f (cs.map (qS o x k))
 |k+1,.agg cs=>.agg (cs.map (qS o x k))
 |k+1,.bD cs=>.bD (cs.map (qS o x k))
 |k+1,.box cs=>.undef
 | _+1,d=>d
def xe(i:Option Nat)(f:Nat->D)(d:D):D:=
 match i with
 |some i=>f i
 |none=>d
def conv(bw:Bool)(gs:List Nat)(o:Nat->D):Nat->D->D
 | 0,d=>sR d
 |k+1,.ref r=>xe (idx gs r) .ref (eg (!bw) (qS o gs k (.ref r)))
 |k+1,.addr r off=>xe (idx gs r) (λi=>.addr i off) (eg (!bw) (qS o gs k (.addr r off)))
 |k+1,.dO r z i j=>xe (idx gs r) (λx=>.dO x z i j) (eg (!bw) (qS o gs k (.dO r z i j)))
 |k+1,.gl r z lo len=>xe (idx gs r) (λx=>.gl x z lo len) (eg (!bw) (qS o gs k (.gl r z lo len)))
 |k+1,.dZ r off z len cap=>xe (idx gs r) (λx=>.dZ x off z len cap) (eg (!bw) (qS o gs k (.dZ r off z len cap)))
 |k+1,.fn f cs=>.fn f (cs.map (conv bw gs o k))
 |k+1,.agg cs=>.agg (cs.map (conv bw gs o k))
 |k+1,.bD cs=>.bD (cs.map (conv bw gs o k))
 |k+1,.box cs=>.undef
 | _+1,d=>d
def AV(bw:Bool)(gs:List Nat)(o:Nat->D)(k:Nat):D->D
 | .box cs=>.box (cs.map (conv bw gs o k))
 | .own z rows=>.own z rows
 | _=>.undef

def EY(d:D):(sR d).names=[]:=by
 unfold sR;split
 ·rename_i h;simpa using h
 ·rfl
theorem V5{f:D->D}(h:∀d,(f d).names=[])(cs:List D):D.cq (cs.map f)=[]:=by
 induction cs with
 |nil=>rfl
 |cons c cs ih=>simp[D.cq,h,ih]
variable{d:D}
def ru{b:Bool}(h:d.names=[]):(eg b d).names=[]:=by unfold eg;split;rfl;exact h
theorem NO(o:Nat->D)(x:List Nat):∀(k:Nat)(d:D),(qS o x k d).names=[]
 | 0,d=>EY d
 |k+1,d=>by
  have a:=NO o x k;cases d<;>simp only[qS]<;>(try rfl)<;>(try exact V5 a _)
  ·refine ru ?_;unfold vZ;split<;>rfl
  ·refine ru ?_;unfold qn;split<;>rfl
  ·refine ru ?_;unfold xR;split<;>(try split)<;>rfl
  ·refine ru ?_;unfold qo;split<;>(try split)<;>rfl
  ·refine ru ?_;unfold ni;split<;>(try split)<;>rfl

def uC:Value->D->Option (Nat×Nat×Nat)
 | .pointer (some a),.box cs=>some (a.block,a.off,a.off+cs.length)
 | .slice (some a) _ cap,.own z _=>if cap=0 then none else some (a.block,0,cap*z)
 | _,_=>none
def uF(gs:List Nat)(S:Nat->Option Value)(o:Nat->D)(b:Nat):Option (Nat×Nat):=
 gs.findSome? λr=>match (S r).bind λv=>uC v (o r)with
  |some x=>if x.1=b then some x.2 else none
  |none=>none
def xk(bw:Bool)(gs:List Nat)(lev own:Nat->Option Nat)(b:Nat):Option Nat:=
 match own b with
 |some r=>if gs.contains r then lev b else if bw then none else lev b
 |none=>lev b
def Ef(gs:List Nat)(S:Nat->Option Value)(i:Nat):Option Value:=(gs[i]?).bind S
def QV(gs:List Nat)(own:Nat->Option Nat)(b:Nat):Option Nat:=(own b).bind (idx gs)

variable{b lo hi i:Nat}{v:Value}
section
variable{P:Program}{w0 w w':World}{l0:Nat->Option Nat}{G:Nat->Option (Nat×Nat)}{S0:Nat->Option Value}{lev lev' own own':Nat->Option Nat}{S S':Nat->Option Value}{env env':Env}{tm tm':Nat->Value}{B:Nat}{gs:List Nat}{bw:Bool}

def n8.blk(h:n8 B G w lev own S r d)(f:S r=some v)(e:uC v d=some (b,lo,hi)) :
  own b=some r/\lev b=some 0/\Yn G B b lo hi/\∃(c:Array Value)(E:TypeId),w.heap[b]?=some (.cells c E (0,0)):=by
 cases d<;>try exact h.elim
 case undef=>cases v<;>simp[uC]at e
 case box cs =>
  obtain⟨q,o,c,E,g,j,k,l,m,n,p⟩:=h;rw[g]at f;cases f;simp only[uC,qN,Prod.mk.injEq]at e;obtain⟨rfl,rfl,rfl⟩:=e;exact⟨m,l,n,c,E,j⟩
 case own z rows =>
  rcases h with⟨a,g,j⟩| ⟨q,c,E,cap,g,j,k,l,m,n,p,h8,h9,h10⟩
  ·rw[g]at f;cases f;cases a<;>simp[uC]at e
  ·rw[g]at f;cases f;simp only[uC]at e;split at e
   ·cases e
   ·simp only[qN,Prod.mk.injEq]at e;obtain⟨rfl,rfl,rfl⟩:=e;rw[k]at h9;exact⟨h8,p,h9,c,E,j⟩
theorem IA{o:Nat->D}(h:uF gs S o b=some (lo,hi)):∃r∈gs,∃v,S r=some v/\uC v (o r)=some (b,lo,hi):=by
 unfold uF at h;obtain⟨r,hr,a⟩:=exists_of_findSome?_eq_some h;refine⟨r,hr,?_⟩;cases f:S r with
 |none=>rw[f]at a;cases a
 |some v =>
  rw[f]at a;simp only[Option.bind_some]at a;cases c:uC v (o r)with
  |none=>rw[c]at a;cases a
  |some x =>
   rw[c]at a;simp only at a;split at a
   ·rename_i e;simp only[qN]at a;refine⟨v,rfl,?_⟩;rw[c,<-e,<-a]
   ·cases a
def agt(h:Inv w0 l0 G S0 w lev own S env tm)(hr:r∈gs)(e:S r=some v)(f:uC v (env.o r)=some (b,lo,hi)):uF gs S env.o b=some (lo,hi):=by
 have g:(uF gs S env.o b).isSome=true:=by
  unfold uF;rw[findSome?_isSome_iff];exact⟨r,hr,by simp[e,f]⟩
 obtain⟨⟨lo',hi'⟩,hx⟩:=Option.isSome_iff_exists.1 g;obtain⟨k,hr',v',a,c⟩:=IA hx;have j:=((h.objs r).blk e f).1;have e2:=((h.objs k).blk a c).1;rw[j]at e2;cases e2;rw[e]at a;cases a;rw[f]at c;cases c;exact hx

def XA(b:Nat):xk bw gs lev own b=lev b\/xk bw gs lev own b=none:=by
 unfold xk;split
 ·split
  ·exact .inl rfl
  ·split
   ·exact .inr rfl
   ·exact .inl rfl
 ·exact .inl rfl
def rQ:rW w lev w (xk bw gs lev own):=by
 intro a u c;have e:=uc c;unfold vis at c |-;rcases XA (bw:=bw) (gs:=gs) (lev:=lev) (own:=own) a.block with h|h
 ·rw[h];exact c
 ·rw[h];exact e
def FK(e:own b=some r)(c:gs.contains r=false){u:Value}(a:w.cell? ⟨b,i,none⟩=some u):vis w (xk true gs lev own) ⟨b,i,none⟩=some u:=by
 unfold vis xk;simp only[e,c,if_true,Bool.false_eq_true,if_false];exact a

def Ck(h:KV d=true):cE d:=by
 cases d<;>simp only[KV]at h<;>first| (cases h;done)|exact⟨trivial,by simpa using h⟩

theorem ku(z:Nat):∀(n:Nat)(cs:List D),(rowsOf z n cs).length=n
 | 0,_=>rfl
 |n+1,cs=>by simp[rowsOf,ku z n]
theorem sY(z:Nat):∀(n:Nat)(cs:List D)(i:Nat)(r:List D),(rowsOf z n cs)[i]?=some r->r=(cs.drop (i*z)).take z
 | 0,_,_,_,h=>by simp[rowsOf]at h
 |n+1,cs,0,r,h=>by simp[rowsOf]at h;simp[h]
 |n+1,cs,i+1,r,h=>by
  simp only[rowsOf,getElem?_cons_succ]at h;have:=sY z n _ i r h;rw[this,drop_drop,Nat.succ_mul,Nat.add_comm]

theorem P5(h:Inv w0 l0 G S0 w lev own S env tm)(S':Nat->Option Value):∀(k:Nat)(d:D)(v:Value),aO (cx w lev S) v d->aO (cx w (xk true gs lev own) S') v (qS env.o gs k d)
 | 0,d,v,hr=>by
  simp only[qS,sR];split
  ·rename_i hn;have af:d.names=[]:=by simpa using hn
   exact hr.iL rQ (by rw[af];simp)
  ·exact .undef _
 |k+1,d,v,hr=>by
  have ih:=P5 h S' k;have R:d.names=[]->aO (cx w (xk true gs lev own) S') v d:=λhn=>hr.iL rQ (by rw[hn];simp);have T:∀(vs:Array Value)(ds:List D),vs.size=ds.length->(∀(i:Nat) v d,vs[i]?=some v->ds[i]?=some d->aO (cx w lev S) v d) ->
    vs.size=(ds.map (qS env.o gs k)).length/\∀(i:Nat) v d,vs[i]?=some v->(ds.map (qS env.o gs k))[i]?=some d->aO (cx w (xk true gs lev own) S') v d:=by
   intro vs ds hl hh;refine⟨by simpa using hl,?_⟩;intro i v d hi A;simp only[getElem?_map]at A;cases e:ds[i]? with
   |none=>rw[e]at A;cases A
   |some x=>rw[e]at A;cases A;exact ih x v (hh i v x hi e)
  cases d<;>simp only[qS]<;>(try exact R rfl)<;>(try(cases hr;done))
  ·obtain⟨vs,rfl,hs,hv⟩:=hr.Du;obtain⟨g,s⟩:=T vs _ hs hv;exact .fn _ vs _ g s
  ·obtain⟨vs,rfl,hs,hv⟩:=hr.tv;obtain⟨g,s⟩:=T vs _ hs hv;exact .agg vs _ g s
  ·obtain⟨vs,rfl,hs,hv⟩:=hr.FG;obtain⟨g,s⟩:=T vs _ hs hv;exact .bD vs _ g s
  ·rename_i r;unfold eg;split
   ·exact .undef _
   ·rename_i K;have l:gs.contains r=false:=by simpa using K
    obtain⟨t,a,len,cap,rfl⟩:=hr.rI;have F:=h.objs r;simp only[cx]at t;cases A:env.o r<;>rw[A]at F<;>simp only[vZ]<;>(try exact .undef _);rename_i z rows;rcases F with⟨U,g,rfl⟩| ⟨b,c,E,n,g,s,h3,Z,M,J,W,h8,h9,h10⟩
    ·rw[t]at g;cases g;cases a with
     |none=>exact .slnil _
     |some ad=>exact nY (rows:=[]) (by simp) (by simp) (by simp) (by simp)
    ·rw[t]at g;cases g;refine nY Z M J ?_;intro i j f x hi p;obtain⟨u,hu,I⟩:=h10 i j f x hi p;refine⟨u,?_,I.iL rQ (by rw[(J f (fC hi) x (fC p)).2];simp)⟩;rw[iQ,Nat.zero_add];exact FK h8 l (by rw[nP w b _ s];exact hu)
  ·rename_i r off;unfold eg;split
   ·exact .undef _
   ·rename_i K;have l:gs.contains r=false:=by simpa using K
    obtain⟨a,t,rfl⟩:=hr.ng;have F:=h.objs r;simp only[cx]at t;cases A:env.o r<;>rw[A]at F<;>simp only[qn]<;>(try exact .undef _);rename_i cs;obtain⟨b,o,c,E,g,s,h3,Z,M,J,W⟩:=F;rw[t]at g;cases g;refine qz (by intro d ac;obtain⟨x,_,rfl⟩:=mem_map.1 ac;exact NO _ _ _ _) ?_;intro j x p;simp only[getElem?_map,getElem?_drop]at p;cases e:cs[off+j]? with
    |none=>rw[e]at p;cases p
    |some y =>
     rw[e]at p;cases p;have H:o+(off+j)<c.size:=by have:=(ia.1 e).1;omega
     refine⟨c[o+(off+j)],?_,ih y _ (W (off+j) _ y (by simp[H]) e)⟩;rw[add_add,iQ];exact FK M l (by rw[nP w b _ s];simp[H])
  ·rename_i r z i j;unfold eg;split
   ·exact .undef _
   ·rename_i K;have l:gs.contains r=false:=by simpa using K
    obtain⟨a,len,cap,t,rfl⟩:=hr.oQ;have F:=h.objs r;simp only[cx]at t;cases A:env.o r<;>rw[A]at F<;>simp only[xR]<;>(try exact .undef _);rename_i z' rows;split
    ·rename_i X;obtain⟨rfl,hi⟩:=X;rcases F with⟨U,g,rfl⟩| ⟨b,c,E,n,g,s,h3,Z,M,J,W,h8,h9,h10⟩
     ·simp at hi
     ·rw[t]at g;cases g;have q:rows.getD i []=rows[i]:=by simp[getD,hi]
      rw[q];refine qz (λx hx=>(J _ (dH hi) x (mem_of_mem_drop hx)).2) ?_;intro m x Q;rw[getElem?_drop]at Q;obtain⟨u,hu,I⟩:=h10 i (j+m) rows[i] x (gF hi) Q;refine⟨u,?_,I.iL rQ (by rw[(J _ (dH hi) x (fC Q)).2];simp)⟩;rw[add_add,iQ];refine FK h8 l ?_;rw[nP w b _ s,<-hu];congr 1;omega
    ·exact .undef _
  ·rename_i r z lo len;unfold eg;split
   ·exact .undef _
   ·rename_i K;have l:gs.contains r=false:=by simpa using K
    obtain⟨a,U,L,cap,n,t,rfl,q1,q2,q3⟩:=hr.pS;have F:=h.objs r;simp only[cx]at t;cases A:env.o r<;>rw[A]at F<;>simp only[qo]<;>(try exact .undef _);rename_i z' rows;split
    ·rename_i X;obtain⟨rfl,aa⟩:=X;have hl:((rows.drop lo).take len).length=len:=by simp;omega
     by_cases Y:len=0
     ·subst Y;have e0:(rows.drop lo).take 0=[]:=by simp
      rw[e0];cases U with
      |none=>rw[q3 rfl];exact .slnil _
      |some ad=>exact nY (rows:=[]) (by simp) (by simp) (by simp) (by simp)
     obtain⟨b0,rfl,rfl⟩:=q1 Y;rcases F with⟨U,g,rfl⟩| ⟨b,c,E,cap2,g,s,h3,Z,M,J,W,h8,h9,h10⟩
     ·simp at aa;omega
     ·rw[t]at g;cases g;have:=nY (V:=cx w (xk true gs lev own) S') (z:=z') (rows:=(rows.drop lo).take len) (a:=(⟨b,0,none⟩:Addr).add (lo*z')) (cap:=n) (by rw[hl];exact q2)
       (λr hr=>M r (mem_of_mem_drop (mem_of_mem_take hr))) (λr hr=>J r (mem_of_mem_drop (mem_of_mem_take hr))) (by
        intro i j f x hi p;have C:i<len:=by have:=(ia.1 hi).1;rw[hl]at this;exact this
        rw[getElem?_take_of_lt C,getElem?_drop]at hi;obtain⟨u,hu,I⟩:=h10 (lo+i) j f x hi p;refine⟨u,?_,I.iL rQ (by rw[(J _ (fC hi) x (fC p)).2];simp)⟩;rw[add_add,iQ];refine FK h8 l ?_;rw[nP w b _ s,<-hu]
        congr 1;rw[Nat.add_mul];omega)
      rw[hl]at this;exact this
    ·exact .undef _
  ·rename_i r off z len bcap;unfold eg;split
   ·exact .undef _
   ·rename_i K;have l:gs.contains r=false:=by simpa using K
    obtain⟨a,U,n,t,rfl,q1,q2,q3⟩:=hr.jm;have F:=h.objs r;simp only[cx]at t;cases A:env.o r<;>rw[A]at F<;>simp only[ni]<;>(try exact .undef _);rename_i cs;split
    ·rename_i X;simp only[Bool.and_eq_true,bO,cg]at X;obtain⟨hp,hle⟩:=X;by_cases Y:len=0
     ·subst Y;simp only[rowsOf];cases U with
      |none=>rw[q3.1 rfl];exact .slnil _
      |some ad=>exact nY (rows:=[]) (by simp) (by simp) (by simp) (by simp)
     have ha:=q1 Y;subst ha;obtain⟨b,o,c,E,g,s,h3,Z,M,J,W⟩:=F;rw[t]at g;cases g;have O:∀(i:Nat) f,(rowsOf z len (cs.drop off))[i]?=some f->i<len/\f=((cs.drop off).drop (i*z)).take z:=by
      intro i f hi;have:=(ia.1 hi).1;rw[ku]at this;exact⟨this,sY _ _ _ _ _ hi⟩
     have N:∀i,i<len->∀x∈((cs.drop off).drop (i*z)).take z,x∈(cs.drop off).take (len*z):=by
      intro i hi x hx;obtain⟨m,Q⟩:=mem_iff_getElem?.1 hx;have ab:m<z:=by have:=(ia.1 Q).1;simp at this;omega
      rw[getElem?_take_of_lt ab,getElem?_drop]at Q;refine fC (i:=i*z+m) ?_;rw[getElem?_take_of_lt (um ab hi)];exact Q
     have:=nY (V:=cx w (xk true gs lev own) S') (z:=z) (rows:=rowsOf z len (cs.drop off)) (a:=(⟨b,o,none⟩:Addr).add off) (cap:=n) (by rw[ku];exact q2)
      (by
       intro f q;obtain⟨i,hi⟩:=mem_iff_getElem?.1 q;obtain⟨C,rfl⟩:=O i f hi;have:(i+1)*z<=len*z:=pH z C;rw[Nat.succ_mul]at this
       simp;omega)
      (by
       intro f q x hx;obtain⟨i,hi⟩:=mem_iff_getElem?.1 q;obtain⟨C,rfl⟩:=O i f hi
       exact Ck (hp x (N i C x hx)))
      (by
       intro i j f x hi p;obtain⟨C,rfl⟩:=O i f hi;have ag:=Ck (hp x (N i C x (fC p)));have ae:j<z:=by have:=(ia.1 p).1;simp at this;omega
       rw[getElem?_take_of_lt ae,getElem?_drop,getElem?_drop]at p;have H:o+(off+(i*z+j))<c.size:=by have:=(ia.1 p).1;omega
       refine⟨c[o+(off+(i*z+j))],?_,(W _ _ x (by simp[H]) p).iL rQ (by rw[ag.2];simp)⟩;rw[add_add,iQ]
       exact FK M l (by rw[nP w b _ s];simp[H]))
     rw[ku]at this;exact this
    ·exact .undef _

def xO(h:idx gs r=some i):Ef gs S i=S r:=by
 unfold Ef;rw[x8 h];rfl
theorem JK(h:Inv w0 l0 G S0 w lev own S env tm):∀(k:Nat)(d:D)(v:Value),aO (cx w lev S) v d->aO (cx w (xk bw gs lev own) (Ef gs S)) v (conv bw gs env.o k d)
 | 0,d,v,hr=>by
  simp only[conv,sR];split
  ·rename_i C;have E:d.names=[]:=by simpa using C
   exact hr.iL rQ (by rw[E];simp)
  ·exact .undef _
 |k+1,d,v,hr=>by
  have M:=JK h k;have l:d.names=[]->aO (cx w (xk bw gs lev own) (Ef gs S)) v d:=λC=>hr.iL rQ (by rw[C];simp);have m:∀(vs:Array Value)(ds:List D),vs.size=ds.length->(∀(i:Nat) v d,vs[i]?=some v->ds[i]?=some d->aO (cx w lev S) v d) ->
    vs.size=(ds.map (conv bw gs env.o k)).length/\∀(i:Nat) v d,vs[i]?=some v->(ds.map (conv bw gs env.o k))[i]?=some d->aO (cx w (xk bw gs lev own) (Ef gs S)) v d:=by
   intro vs ds K J;refine⟨by simpa using K,?_⟩;intro i v d hi q;simp only[getElem?_map]at q;cases e:ds[i]? with
   |none=>rw[e]at q;cases q
   |some x=>rw[e]at q;cases q;exact M x v (J i v x hi e)
  have c:∀u,aO (cx w lev S) v u->aO (cx w (xk bw gs lev own) (Ef gs S)) v (eg (!bw) (qS env.o gs k u)):=by
   intro u A;unfold eg;cases bw with
   |false=>exact .undef _
   |true=>exact P5 h _ k u v A
  cases d<;>simp only[conv]<;>(try exact l rfl)<;>(try(cases hr;done))
  ·obtain⟨vs,rfl,s,t⟩:=hr.Du;obtain⟨n,p⟩:=m vs _ s t;exact .fn _ vs _ n p
  ·obtain⟨vs,rfl,s,t⟩:=hr.tv;obtain⟨n,p⟩:=m vs _ s t;exact .agg vs _ n p
  ·obtain⟨vs,rfl,s,t⟩:=hr.FG;obtain⟨n,p⟩:=m vs _ s t;exact .bD vs _ n p
  ·rename_i r;cases e:idx gs r with
   |none=>exact c _ hr
   |some i =>
    obtain⟨f,a,len,cap,rfl⟩:=hr.rI;exact .ref i a len cap ((xO e).trans f)
  ·rename_i r off;cases e:idx gs r with
   |none=>exact c _ hr
   |some i =>
    obtain⟨a,f,rfl⟩:=hr.ng;exact .addr i off a ((xO e).trans f)
  ·rename_i r z i j;cases e:idx gs r with
   |none=>exact c _ hr
   |some x =>
    obtain⟨a,len,cap,f,rfl⟩:=hr.oQ;exact .dO x z i j a len cap ((xO e).trans f)
  ·rename_i r z lo len;cases e:idx gs r with
   |none=>exact c _ hr
   |some x =>
    obtain⟨a,y,L,cap,g,f,rfl,I,F,H⟩:=hr.pS;exact .gl x z lo len a y L cap g ((xO e).trans f) I F H
  ·rename_i r off z len bcap;cases e:idx gs r with
   |none=>exact c _ hr
   |some x =>
    obtain⟨a,y,g,f,rfl,I,F,H⟩:=hr.jm;obtain⟨_,rfl,N⟩:=H;exact .dZ x off z len _ a y ((xO e).trans f) N F

def abd(h:Inv w0 l0 G S0 w lev own S env tm)(U:gs.Nodup)(hi:gs[i]?=some r)(k:Nat)(p:env.o r≠.undef) :
  n8 w.heap.size (uF gs S env.o) w (xk bw gs lev own) (QV gs own) (Ef gs S) i (AV bw gs env.o k (env.o r)):=by
 have F:=h.objs r;have f:=fC hi;have R:=VR U hi;have g:Ef gs S i=S r:=xO R;have T:gs.contains r=true:=contains_iff_mem.2 f;have m:∀b,own b=some r->xk bw gs lev own b=lev b:=by intro b L;unfold xk;simp only[L,T,if_true]
 have n:∀b,own b=some r->QV gs own b=some i:=by intro b L;unfold QV;simp only[L,Option.bind_some];exact R
 cases D:env.o r<;>rw[D]at F<;>simp only[AV]<;>(try exact F.elim)
 ·exact(p D).elim
 ·rename_i z rows;rcases F with⟨a,l,rfl⟩| ⟨b,c,E,cap,l,H,A,I,C,J,K,h8,h9,h10⟩
  ·exact .inl ⟨a,g.trans l,rfl⟩
  ·by_cases O:cap=0
   ·subst O;have:rows=[]:=length_eq_zero_iff.1 (by omega);subst this;exact .inl ⟨_,g.trans l,rfl⟩
   ·refine .inr ⟨b,c,E,cap,g.trans l,H,A,I,C,J,(m b h8).trans K,n b h8,.inr ⟨0,cap*z,?_,fO _,by rw[A];exact fO _⟩,?_⟩
    ·exact agt h f l (by rw[D];simp[uC,O])
    ·intro V j y d t Q;obtain⟨u,N,M⟩:=h10 V j y d t Q;exact⟨u,N,M.iL rQ (by rw[(J y (fC t) d (fC Q)).2];simp)⟩
 ·rename_i cs;obtain⟨b,o,c,E,l,H,A,I,C,J,K⟩:=F;refine⟨b,o,c,E,g.trans l,H,by simpa using A,(m b C).trans I,n b C,.inr ⟨o,o+cs.length,?_,fO _,by simp⟩,?_⟩
  ·exact agt h f l (by rw[D];simp[uC])
  ·intro j u e N s;simp only[getElem?_map]at s;cases q:cs[j]? with
   |none=>rw[q]at s;cases s
   |some x=>rw[q]at s;cases s;exact JK h k x u (K j u x N q)
end
end Go.Abs
namespace Go.Abs
open List

def uU:D->Prop
 | .sl _ rows=>rows=[]
 | .bG _| .fn _ _| .agg _| .bD _| .box _| .own _ _=>False
 | _=>True
def zx:D->Prop
 | .agg cs=>∀c∈cs,uU c
 |d=>uU d
def uV:D->Prop
 | .bD ds=>∀d∈ds,zx d
 |d=>zx d
def zw:D->Prop
 | .box cs=>∀c∈cs,uU c
 | .own _ rows=>∀r∈rows,∀d∈r,uU d
 | .undef=>True
 | _=>False
theorem uU.rep{V c:Addr->Option Value}{S:Nat->Option Value}{v:Value}{d:D}(h:uU d)(r:aO ⟨V,S⟩ v d):aO ⟨c,S⟩ v d:=by
 cases r with
 |sl z a cap rows f hl hz hk hc hr =>
  have:rows=[]:=h;subst this;exact .sl z a cap [] f hl hz hk (by simp) (by simp)
 |slnil z=>exact .slnil z
 |undef v=>exact .undef v
 |bool b=>exact .bool b
 |int k n=>exact .int k n
 |str s=>exact .str s
 |nil=>exact .nil
 |emp a=>exact .emp a
 |ot=>exact .ot
 |iZ=>exact .iZ
 |jW t v=>exact .jW t v
 |qP=>exact .qP
 |ref r a len cap hh=>exact .ref r a len cap hh
 |addr r off a hh=>exact .addr r off a hh
 |dO r z i k a len cap hh=>exact .dO r z i k a len cap hh
 |gl r z lo len a a' L cap cap' hh h1 h2 h3=>exact .gl r z lo len a a' L cap cap' hh h1 h2 h3
 |dZ r off z len cap a a' hh h1 h2=>exact .dZ r off z len cap a a' hh h1 h2
 | _=>exact h.elim
def zx.rep{V c:Addr->Option Value}{S:Nat->Option Value}{v:Value}{d:D}(h:zx d)(r:aO ⟨V,S⟩ v d):aO ⟨c,S⟩ v d:=by
 by_cases a:∃cs,d=.agg cs
 ·obtain⟨cs,rfl⟩:=a;obtain⟨vs,rfl,f,hr⟩:=r.tv;exact .agg vs cs f λi v d e b=>uU.rep (h d (fC b)) (hr i v d e b)
 ·have:uU d:=by cases d<;>first|exact h|exact(a ⟨_,rfl⟩).elim
  exact this.rep r
def uV.rep{V c:Addr->Option Value}{S:Nat->Option Value}{v:Value}{d:D}(h:uV d)(r:aO ⟨V,S⟩ v d):aO ⟨c,S⟩ v d:=by
 by_cases a:∃cs,d=.bD cs
 ·obtain⟨cs,rfl⟩:=a;obtain⟨vs,rfl,f,hr⟩:=r.FG;exact .bD vs cs f λi v d e b=>zx.rep (h d (fC b)) (hr i v d e b)
 ·have:zx d:=by cases d<;>first|exact h|exact(a ⟨_,rfl⟩).elim
  exact this.rep r

def Bn:List Nat->Env->Env
 | [],e=>e
 |r::rs,e=>Bn rs (nr r e)
def gz:D->Bool
 | .undef=>true
 | _=>false
def nR:List Nat->List D->List Nat
 |g::gs,h::hs=>if gz h then g::nR gs hs else nR gs hs
 | _,_=>[]
def nU(d:Nat):Nat->Nat->List Nat
 | _,0=>[]
 |k,m+1=>nm d k::nU d (k+1) m
def K6(f:Nat->Option Nat):List Nat->List D->Env->Env
 |r::rs,h::hs,e=>K6 f rs hs (eV e r (h.oU f))
 | _,_,e=>e
def NJ(ns:List Nat)(i:Nat):Option Nat:=ns[i]?
def ig(d:Nat)(gs:List Nat)(a:List D):List Nat:=gs++nU d 0 (a.length-gs.length)
def fM(e:Env)(d:Nat)(gs:List Nat)(a:List D)(b:D):Env:=
 cQ (K6 (NJ (ig d gs a)) (ig d gs a) a (Bn (nR gs a) e)) d (b.oU (NJ (ig d gs a)))

structure Out(m:Nat)(hs':List D)(w:World)(l0:Nat->Option Nat)(G0:Nat->Option (Nat×Nat))(S0:Nat->Option Value)(w':World)(v:Value)(d:D):Prop where
 os:w'.os=w.os
 tape:w'.tape=w.tape
 output:w'.output=w.output
 size:w.heap.size<=w'.heap.size
 old:∀b,b<w.heap.size->G0 b=none->w'.heap[b]?=w.heap[b]?
 part:∀b lo hi,G0 b=some (lo,hi)->pG w w' b lo hi
 rep:∃lev own S,(∀b m,lev b=some m->b<w'.heap.size)/\(∀b,b<w.heap.size->G0 b=none->lev b=l0 b)/\aO (cx w' lev S) v d /\
  (∀r,n8 w.heap.size G0 w' lev own S r (hs'.getD r .undef))/\∀i,i<m->hs'.getD i .undef≠.undef->S i=S0 i

theorem OR(d:Nat):∀(m k:Nat),(nU d k m).length=m
 | 0,_=>rfl
 |m+1,k=>by simp[nU,OR d m]
theorem yq{d:Nat}:∀{m k s:Nat},s∈nU d k m->∃j,k<=j/\j<k+m/\s=nm d j
 | 0,_,_,h=>by simp[nU]at h
 |m+1,k,s,h=>by
  simp only[nU,mem_cons]at h;rcases h with rfl|h
  ·exact⟨k,fO _,by omega,rfl⟩
  ·obtain⟨j,h1,h2,a⟩:=yq h;exact⟨j,by omega,by omega,a⟩
def ajZ{d i j:Nat}(h:nm d i=nm d j):i=j:=by unfold nm at h;omega
theorem Hw(d:Nat):∀(m k:Nat),(nU d k m).Nodup
 | 0,_=>by simp[nU]
 |m+1,k=>by
  simp only[nU,nodup_cons];refine⟨?_,Hw d m (k+1)⟩;intro h;obtain⟨j,h1,_,a⟩:=yq h;have:=ajZ a;omega

section
variable{P:Program}{w0 w w':World}{l0:Nat->Option Nat}{G:Nat->Option (Nat×Nat)}{S0:Nat->Option Value}{lev lev' own own':Nat->Option Nat}{S S':Nat->Option Value}{env env':Env}{tm tm':Nat->Value}{B:Nat}{gs:List Nat}{bw:Bool}

theorem Inv.nu:∀(c:List Nat) {S:Nat->Option Value} {env:Env},Inv w0 l0 G S0 w lev own S env tm->∃a,Inv w0 l0 G S0 w lev own a (Bn c env) tm/\∀s u,a s=some u->S s=some u/\s∉c
 | [],S,env,h=>⟨S,h,λs u d=>⟨d,by simp⟩⟩
 |k::c,S,env,h=>by
  obtain⟨a,f,g⟩:=Inv.nu c (h.kill k);refine⟨a,f,λs u d=>?_⟩;obtain⟨b,i⟩:=g s u d;by_cases e:s=k
  ·subst e;rw[fc]at b;cases b
  ·rw[gX _ _ e]at b;exact⟨b,by simp[e,i]⟩
theorem K8(f:Nat->Option Nat):∀(ns:List Nat)(b:List D)(e:Env)(r:Nat),ns.Nodup->ns.length=b.length->(K6 f ns b e).o r=match idx ns r with
  |some i=>(b.getD i .undef).oU f
  |none=>e.o r
 | [],[],e,r,_,_=>rfl
 | [],_::_,_,_,_,h=>by simp at h
 | _::_,[],_,_,_,h=>by simp at h
 |n::ns,h::b,e,r,hn,hl=>by
  have a:=nodup_cons.1 hn;rw[K6,K8 f ns b _ r a.2 (by simpa using hl)];by_cases c:n=r
  ·subst c;have:idx ns n=none:=by
    cases d:idx ns n with
    |none=>rfl
    |some i=>exact(a.1 (fC (x8 d))).elim
   rw[this];simp[idx,eV]
  ·simp only[idx,aq c];cases d:idx ns r with
   |none=>simp[eV,Ne.symm c]
   |some i=>simp
theorem acR(f:Nat->Option Nat):∀(ns:List Nat)(a:List D)(e:Env),(K6 f ns a e).t=e.t
 | [],_,_=>rfl
 | _::_,[],_=>rfl
 |n::ns,h::a,e=>by rw[K6,acR f ns a];rfl
theorem N2:∀(gs:List Nat)(a:List D)(i r:Nat),gs.Nodup->gs.length<=a.length->gs[i]?=some r->(r∈nR gs a↔a.getD i .undef=.undef)
 | [],_,i,r,_,_,h=>by simp at h
 |g::gs,[],_,_,_,hl,_=>by simp at hl
 |g::gs,h::a,i,r,hn,hl,d=>by
  have c:=nodup_cons.1 hn;have e:∀(gs:List Nat)(a:List D)(x:Nat),x∈nR gs a->x∈gs:=by
   intro gs;induction gs with
   |nil=>intro a x b;cases a<;>simp[nR]at b
   |cons g gs f =>
    intro a x b;cases a with
    |nil=>simp[nR]at b
    |cons h a =>
     simp only[nR]at b;split at b
     ·rcases mem_cons.1 b with rfl|b
      ·simp
      ·exact mem_cons_of_mem _ (f a x b)
     ·exact mem_cons_of_mem _ (f a x b)
  cases i with
  |zero =>
   simp at d;subst d;simp only[nR,getD_cons_zero];cases h<;>simp[gz]<;>exact λb=>c.1 (e _ _ _ b)
  |succ i =>
   simp only[getElem?_cons_succ]at d;have j:r≠g:=by rintro rfl;exact c.1 (fC d)
   have f:=N2 gs a i r c.2 (by simpa using hl) d;simp only[nR,getD_cons_succ];split
   ·simp[j,f]
   ·exact f
def pG.mono{b lo e d a:Nat}(h:pG w w' b lo e)(h1:d<=lo)(h2:e<=a):pG w w' b d a:=by
 obtain⟨c0,c,E,f,a2,a3,a4⟩:=h;exact⟨c0,c,E,f,a2,a3,λj hj=>a4 j (by omega)⟩

def Inv.call(h:Inv w0 l0 G S0 w lev own S env tm){d:Nat}{f:List D}{v:Value}{dv:D}(hn:gs.Nodup)(U:∀r∈gs,env.o r≠.undef)(M:∀r∈nU d 0 (f.length-gs.length),env.o r=.undef)
  (al:gs.length<=f.length) (X:bw=true->uV dv/\∀h∈f,zw h) (ho:Out gs.length f w (xk bw gs lev own) (uF gs S env.o) (Ef gs S) w' v dv) :
  ∃lev' own' S',Inv w0 l0 G S0 w' lev' own' S' (fM env d gs f dv) (Iy tm d v):=by
 obtain⟨aB,ai,ap,ah,N,ag,I,ac,S1,aA,az,ab,ao,Y⟩:=ho;obtain⟨Sk,hk,au⟩:=h.nu (nR gs f)
 -- the names
 have ad:(ig d gs f).Nodup:=by
  unfold ig;refine nodup_append.2 ⟨hn,Hw _ _ _,?_⟩;rintro a ha b p rfl;exact U a ha (M a p)
 have an:(ig d gs f).length=f.length:=by simp[ig,OR];omega
 -- the given blocks
 have hG:∀b lo n,uF gs S env.o b=some (lo,n)->∃r∈gs,own b=some r/\lev b=some 0/\Yn G w0.heap.size b lo n/\b<w.heap.size:=by
  intro b lo n p;obtain⟨r,hr,u,q,av⟩:=IA p;obtain⟨Z,e2,F,c,E,e4⟩:=(h.objs r).blk q av;exact⟨r,hr,Z,e2,F,lt_of_block e4⟩
 let ns:=ig d gs f
 let old:Nat->Prop:=λb=>b<w.heap.size/\uF gs S env.o b=none
 let lev':Nat->Option Nat:=λb=>if b<w.heap.size/\uF gs S env.o b=none then lev b else I b
 let own':Nat->Option Nat:=λb=>if b<w.heap.size/\uF gs S env.o b=none then own b else(ac b).bind (NJ ns)
 let S':Nat->Option Value:=λr=>match idx ns r with
  |some i=>S1 i
  |none=>Sk r
 have ar:rW w lev w' lev':=by
  intro a u q;have g:=World.block_lt_of_cell? _ _ (uc q);have A:uF gs S env.o a.block=none:=by
   cases e:uF gs S env.o a.block with
   |none=>rfl
   |some x =>
    obtain⟨lo,n⟩:=x;obtain⟨r,hr,Z,e2,_⟩:=hG _ _ _ e;unfold vis at q;rw[e2]at q;simp at q
  unfold vis at q |-;simp only[lev',g,A,and_self,if_true];rw[World.cell?_of_block (w:=w) (N _ g A)];exact q
 have aj:∀s u,Sk s=some u->S' s=some u:=by
  intro s u q;obtain⟨K,L⟩:=au s u q;simp only[S'];cases H:idx ns s with
  |none=>exact q
  |some i =>
   have k:ns[i]?=some s:=x8 H;have g:i<gs.length:=by
    rcases dN i gs.length with g|hge
    ·exact g
    ·exfalso;simp only[ns,ig]at k;rw[getElem?_append_right hge]at k;have:=M s (fC k);rw[h.fresh this]at K;cases K
   have T:gs[i]?=some s:=by
    simp only[ns,ig]at k;rwa[getElem?_append_left g]at k
   have ae:f.getD i .undef≠.undef:=λaG=>L ((N2 gs f i s hn al T).2 aG);simp only;rw[Y i g ae];unfold Ef;rw[T];exact K
 -- what the call gives,in the caller's names
 have aa:∀(u:Value)(x:D),aO (cx w' lev' S1) u x->aO (cx w' lev' S') u (x.oU (NJ ns)):=by
  intro u x H;refine aO.oU (C:=cx w' lev' S1) (C':=cx w' lev' S') (λ_ _ h=>h) H ?_;intro s _ t ht y hy;have:idx ns t=some s:=VR ad ht;simp only[cx,S',this];exact hy
 have hV:bw=false->rW w' I w' lev':=by
  intro p a u q;have:lev' a.block=I a.block:=by
   simp only[lev'];split
   ·rename_i hc;rw[az _ hc.1 hc.2];unfold xk;split
    ·split<;>simp[p]
    ·rfl
   ·rfl
  unfold vis at q |-;rw[this];exact q
 have ax:aO (cx w' lev' S1) v dv:=by
  cases p:bw with
  |false=>exact ab.iL (hV p) λ_ _ _ h=>h
  |true=>exact(X p).1.rep ab
 have R:∀(x:D),(∃hh∈f,(∃cs,hh=.box cs/\x∈cs)\/∃z rows J,hh=.own z rows/\J∈rows/\x∈J)->∀u,aO (cx w' I S1) u x->aO (cx w' lev' S1) u x:=by
  rintro x ⟨hh,hm,H⟩ u q;cases p:bw with
  |false=>exact q.iL (hV p) λ_ _ _ h=>h
  |true =>
   have hp:=(X p).2 hh hm;rcases H with⟨cs,rfl,H⟩| ⟨z,rows,J,rfl,hr,H⟩
   ·exact(hp x H).rep q
   ·exact(hp J hr x H).rep q
 have ay:∀b lo n,Yn (uF gs S env.o) w.heap.size b lo n->Yn G w0.heap.size b lo n/\¬old b:=by
  intro b lo n A;rcases A with A| ⟨l,m,A,K,L⟩
  ·exact⟨.inl (Nat.le_trans h.size A),λhc=>by have:=hc.1;omega⟩
  ·obtain⟨r,hr,Z,e2,F,e4⟩:=hG _ _ _ A;exact⟨F.mono K L,λhc=>by have:=hc.2;rw[A]at this;cases this⟩
 refine⟨lev',own',S',⟨aB.trans h.os.1,h.os.2⟩,ai.trans h.tape,ap.trans h.output,Nat.le_trans h.size ah,?_,?_,?_,?_,?_,?_,?_⟩
 ·intro b p A;have g:b<w.heap.size:=Nat.lt_of_lt_of_le p h.size;have:uF gs S env.o b=none:=by
   cases e:uF gs S env.o b with
   |none=>rfl
   |some x =>
    obtain⟨lo,n⟩:=x;obtain⟨r,hr,Z,e2,F,e4⟩:=hG _ _ _ e;rcases F with F| ⟨l,m,F,_⟩
    ·omega
    ·rw[A]at F;cases F
  exact(N b g this).trans (h.old b p A)
 ·intro b lo n A;have hp:=h.part b lo n A;refine hp.trans ?_;cases e:uF gs S env.o b with
  |none =>
   refine hp.of_same (N b ?_ e);obtain⟨_,_,_,_,p,_⟩:=hp;exact lt_of_block p
  |some x =>
   obtain⟨l,m⟩:=x;obtain⟨r,hr,Z,e2,F,e4⟩:=hG _ _ _ e;rcases F with F| ⟨l',m',F,K,L⟩
   ·obtain⟨c0,_,_,aw,_⟩:=hp;have:=lt_of_block aw;omega
   ·rw[A]at F;cases F;exact(ag b l m e).mono K L
 ·intro b m p;simp only[lev']at p;split at p
  ·have:=h.priv b m p;omega
  ·exact aA b m p
 ·intro b p A;have g:b<w.heap.size:=Nat.lt_of_lt_of_le p h.size;have:uF gs S env.o b=none:=by
   cases e:uF gs S env.o b with
   |none=>rfl
   |some x =>
    obtain⟨lo,n⟩:=x;obtain⟨r,hr,Z,e2,F,e4⟩:=hG _ _ _ e;rcases F with F| ⟨l,m,F,_⟩
    ·omega
    ·rw[A]at F;cases F
  simp only[lev',g,this,and_self,if_true];exact h.mT b p A
 ·intro i n he;have Q:(K6 (NJ ns) ns f (Bn (nR gs f) env)).o i≠.undef:=he;rw[K8 _ _ _ _ _ ad an]at Q;simp only[S'];cases H:idx ns i with
  |none =>
   rw[H]at Q;exact hk.VH i n Q
  |some j =>
   rw[H]at Q;have k:ns[j]?=some i:=x8 H;have g:j<gs.length:=by
    rcases dN j gs.length with g|hge
    ·exact g
    ·exfalso;simp only[ns,ig]at k;rw[getElem?_append_right hge]at k;obtain⟨_,_,_,e⟩:=yq (fC k);have:=C0 d;rw[e]at n;have:=C0 d ‹_›;omega
   have T:gs[j]?=some i:=by
    simp only[ns,ig]at k;rwa[getElem?_append_left g]at k
   have ae:f.getD j .undef≠.undef:=by
    intro e;simp only[e,D.oU]at Q;exact Q rfl
   simp only;rw[Y j g ae];unfold Ef;rw[T];exact h.VH i n (U i (fC T))
 ·intro s;by_cases e:s=d
  ·subst e;simp only[fM,PC];simpa[Iy]using aa v dv ax
  ·simp only[fM];rw[wQ e,acR];have:Iy tm d v s=tm s:=by simp[Iy,e]
   rw[this];exact(hk.rP s).iL ar λs _ u q=>aj s u q
 ·intro r;show n8 _ _ _ _ _ _ r ((K6 (NJ ns) ns f (Bn (nR gs f) env)).o r);rw[K8 _ _ _ _ _ ad an];cases H:idx ns r with
  |none =>
   have af:=hk.objs r;have O:S' r=Sk r:=by simp only[S',H]
   have aE:r∉gs:=by
    intro hr;have:r∈ns:=mem_append_left _ hr;obtain⟨i,n⟩:=aeV this;rw[H]at n;cases n
   refine af.keep ar (λs _ u q=>aj s u q) (λhd=>by rw[hd]at af;rw[O];exact af) ?_;intro b p hl;have g:=h.priv b 0 hl;have A:uF gs S env.o b=none:=by
    cases e:uF gs S env.o b with
    |none=>rfl
    |some x =>
     obtain⟨lo,n⟩:=x;obtain⟨r',aD,Z,_⟩:=hG _ _ _ e;rw[p]at Z;cases Z;exact(aE aD).elim
   refine⟨N b g A,?_,?_⟩
   ·simp only[lev',g,A,and_self,if_true]
   ·simp only[own',g,A,and_self,if_true]
  |some i =>
   have k:ns[i]?=some r:=x8 H;have O:S' r=S1 i:=by simp only[S',H]
   have W:=ao i;have V:f.getD i .undef≠.undef->f.getD i .undef∈f:=by
    intro am;rcases dN i f.length with g|hge
    ·rw[show f.getD i .undef=f[i]by simp[getD,g]];exact dH g
    ·rw[show f.getD i .undef=.undef by simp[getD,hge]]at am;exact(am rfl).elim
   have ak:∀b lo n,Yn (uF gs S env.o) w.heap.size b lo n->ac b=some i->lev' b=I b/\own' b=some r/\Yn G w0.heap.size b lo n:=by
    intro b lo n A p;obtain⟨K,L⟩:=ay b lo n A;refine⟨aq L,?_,K⟩;simp only[own'];rw[aq L,p];exact k
   show n8 _ _ _ _ _ _ r ((f.getD i .undef).oU (NJ ns));generalize hgd:f.getD i .undef=x at W V |-;cases x<;>try exact W.elim
   ·simp only[D.oU];show S' r=none;rw[O];exact W
   ·rename_i z rows;have hm:=V (by simp);simp only[D.oU];rcases W with⟨a,K,L⟩| ⟨b,c,E,cap,K,L,h3,h4,h5,h6,h7,h8,h9,h10⟩
    ·exact .inl ⟨a,O.trans K,L⟩
    ·obtain⟨g1,g2,g3⟩:=ak b _ _ h9 h8;refine .inr ⟨b,c,E,cap,O.trans K,L,h3,h4,h5,h6,g1.trans h7,g2,g3,?_⟩;intro i' j J y n hj;obtain⟨u,q,aF⟩:=h10 i' j J y n hj;have aC:=h6 J (fC n) y (fC hj);have:=R y ⟨_,hm,.inr ⟨z,rows,J,rfl,fC n,fC hj⟩⟩ u aF;exact⟨u,q,this.iL (.refl _ _) (by rw[aC.2];simp)⟩
   ·rename_i cs;have hm:=V (by simp);simp only[D.oU];obtain⟨b,o,c,E,K,L,h3,h4,h5,h6,h7⟩:=W;obtain⟨g1,g2,g3⟩:=ak b _ _ h6 h5;rw[Ly];refine⟨b,o,c,E,O.trans K,L,by simpa using h3,g1.trans h4,g2,by simpa using g3,?_⟩;intro j u e q he;simp only[getElem?_map]at he;cases hy:cs[j]? with
    |none=>rw[hy]at he;cases he
    |some y =>
     rw[hy]at he;cases he;exact aa u y (R y ⟨_,hm,.inl ⟨cs,rfl,fC hy⟩⟩ u (h7 j u y q hy))
end
end Go.Abs
namespace Go.Abs
open List

def tD(b:Bool)(x d:D):D:=if b then x else d
mutual
def pJ(o:D)(r:Nat):D->D
 | .fn g cs=>.fn g (Ac o r cs)
 | .agg cs=>.agg (Ac o r cs)
 | .bD cs=>.bD (Ac o r cs)
 | .box cs=>.box (Ac o r cs)
 | .ref s=>tD (s==r) (vZ o) (.ref s)
 | .addr s off=>tD (s==r) (qn sR off o) (.addr s off)
 | .dO s z i k=>tD (s==r) (xR z i k o) (.dO s z i k)
 | .gl s z l n=>tD (s==r) (qo z l n o) (.gl s z l n)
 | .dZ s off z n c=>tD (s==r) (ni off z n o) (.dZ s off z n c)
 |d=>d
def Ac(o:D)(r:Nat):List D->List D
 | []=>[]
 |d::l=>pJ o r d::Ac o r l
end
theorem EB(o:D)(r:Nat):∀cs:List D,Ac o r cs=cs.map (pJ o r)
 | []=>rfl
 |d::l=>by rw[Ac,EB o r l];rfl
def CH(r:Nat)(e:Env):Env:=⟨λj=>pJ (e.o r) r (e.t j),λj=>if j=r then .undef else pJ (e.o r) r (e.o j)⟩
def iY:List Nat->Env->Env
 | [],e=>e
 |r::rs,e=>iY rs (CH r e)

variable{b i r cap:Nat}{rows:List (List D)}{a:List D}
section
variable{P:Program}{w0 w w':World}{l0:Nat->Option Nat}{G:Nat->Option (Nat×Nat)}{S0:Nat->Option Value}{lev lev' own own':Nat->Option Nat}{S S':Nat->Option Value}{env env':Env}{tm tm':Nat->Value}{B:Nat}

def vf(S:Nat->Option Value)(env:Env)(r:Nat):Option Nat:=((S r).bind λv=>uC v (env.o r)).map (·.1)
def vW(lev:Nat->Option Nat)(x:Option Nat):Nat->Option Nat:=λb=>if x=some b then none else lev b
def D9(x:Option Nat):rW w lev w (vW lev x):=by
 intro a u c;have d:=uc c;unfold vis at c |-;unfold vW;by_cases h:x=some a.block
 ·rw[au h];exact d
 ·rw[aq h];exact c
def B2{x:Option Nat}(d:x=some b){u:Value}(c:w.cell? ⟨b,i,none⟩=some u):vis w (vW lev x) ⟨b,i,none⟩=some u:=by
 unfold vis vW;simp only[d,if_true];exact c
def Sc{o:Nat}{cs:List D}(c:S r=some (.pointer (some ⟨b,o,none⟩)))(d:env.o r=.box cs):vf S env r=some b:=by simp[vf,c,d,uC]
def Jn{z len:Nat}(c:S r=some (.slice (some ⟨b,0,none⟩) len cap))(e:env.o r=.own z rows)(d:cap≠0):vf S env r=some b:=by simp[vf,c,e,uC,d]
def Uw(c:rows[i]?=some a)(hl:rows.length<=cap):cap≠0:=by
 have:=(ia.1 c).1;omega

def abw(h:Inv w0 l0 G S0 w lev own S env tm)(r:Nat)(S':Nat->Option Value) :
  (∀v,aO (cx w lev S) v (.ref r)->aO (cx w (vW lev (vf S env r)) S') v (vZ (env.o r))) /\
  (∀off v,aO (cx w lev S) v (.addr r off)->aO (cx w (vW lev (vf S env r)) S') v (qn sR off (env.o r))) /\
  (∀z i j v,aO (cx w lev S) v (.dO r z i j)->aO (cx w (vW lev (vf S env r)) S') v (xR z i j (env.o r))) /\
  (∀z lo len v,aO (cx w lev S) v (.gl r z lo len)->aO (cx w (vW lev (vf S env r)) S') v (qo z lo len (env.o r))) /\
  (∀off z len cap v,aO (cx w lev S) v (.dZ r off z len cap)->aO (cx w (vW lev (vf S env r)) S') v (ni off z len (env.o r))):=by
 have H:=h.objs r;have D:=D9 (w:=w) (lev:=lev) (vf S env r);refine⟨?_,?_,?_,?_,?_⟩
 ·intro v hr;obtain⟨k,a,len,cap,rfl⟩:=hr.rI;simp only[cx]at k;cases t:env.o r<;>rw[t]at H<;>simp only[vZ]<;>(try exact .undef _);rename_i z rows;rcases H with⟨O,l,rfl⟩| ⟨b,c,E,n,l,I,h3,K,Q,F,R,h8,h9,h10⟩
  ·rw[k]at l;cases l;cases a with
   |none=>exact .slnil _
   |some ad=>exact nY (rows:=[]) (by simp) (by simp) (by simp) (by simp)
  ·rw[k]at l;cases l;refine nY K Q F ?_;intro i j f x g p;obtain⟨u,Y,C⟩:=h10 i j f x g p;refine⟨u,?_,C.iL D (by rw[(F f (fC g) x (fC p)).2];simp)⟩;rw[iQ,Nat.zero_add];exact B2 (Jn k t (Uw g K)) (by rw[nP w b _ I];exact Y)
 ·intro off v hr;obtain⟨a,k,rfl⟩:=hr.ng;simp only[cx]at k;cases t:env.o r<;>rw[t]at H<;>simp only[qn]<;>(try exact .undef _);rename_i cs;obtain⟨b,o,c,E,l,I,h3,K,Q,F,R⟩:=H;rw[k]at l;cases l;refine qz (by intro d aa;obtain⟨x,_,rfl⟩:=mem_map.1 aa;exact EY _) ?_;intro j x p;simp only[getElem?_map,getElem?_drop]at p;cases e:cs[off+j]? with
  |none=>rw[e]at p;cases p
  |some y =>
   rw[e]at p;cases p;have A:o+(off+j)<c.size:=by have:=(ia.1 e).1;omega
   refine⟨c[o+(off+j)],?_,?_⟩
   ·rw[add_add,iQ];refine B2 (Sc k t) ?_;rw[nP w b _ I];simp[A]
   ·have hy:=R (off+j) c[o+(off+j)] y (by simp[A]) e;unfold sR;split
    ·rename_i hn;have ac:y.names=[]:=by simpa using hn
     exact hy.iL D (by rw[ac];simp)
    ·exact .undef _
 ·intro z i j v hr;obtain⟨a,len,cap,k,rfl⟩:=hr.oQ;simp only[cx]at k;cases t:env.o r<;>rw[t]at H<;>simp only[xR]<;>(try exact .undef _);rename_i z' rows;split
  ·rename_i T;obtain⟨rfl,g⟩:=T;rcases H with⟨O,l,rfl⟩| ⟨b,c,E,n,l,I,h3,K,Q,F,R,h8,h9,h10⟩
   ·simp at g
   ·rw[k]at l;cases l;have q:rows.getD i []=rows[i]:=by simp[getD,g]
    rw[q];refine qz (λx Z=>(F _ (dH g) x (mem_of_mem_drop Z)).2) ?_;intro m x N;rw[getElem?_drop]at N;obtain⟨u,Y,C⟩:=h10 i (j+m) rows[i] x (gF g) N;refine⟨u,?_,C.iL D (by rw[(F _ (dH g) x (fC N)).2];simp)⟩;rw[add_add,iQ];refine B2 (Jn k t (by omega)) ?_;rw[nP w b _ I,<-Y];congr 1;omega
  ·exact .undef _
 ·intro z lo len v hr;obtain⟨a,O,L,cap,n,k,rfl,q1,q2,q3⟩:=hr.pS;simp only[cx]at k;cases t:env.o r<;>rw[t]at H<;>simp only[qo]<;>(try exact .undef _);rename_i z' rows;split
  ·rename_i T;obtain⟨rfl,W⟩:=T;have hl:((rows.drop lo).take len).length=len:=by simp;omega
   by_cases U:len=0
   ·subst U;have e0:(rows.drop lo).take 0=[]:=by simp
    rw[e0];cases O with
    |none=>rw[q3 rfl];exact .slnil _
    |some ad=>exact nY (rows:=[]) (by simp) (by simp) (by simp) (by simp)
   obtain⟨b0,rfl,rfl⟩:=q1 U;rcases H with⟨O,l,rfl⟩| ⟨b,c,E,cap2,l,I,h3,K,Q,F,R,h8,h9,h10⟩
   ·simp at W;omega
   ·rw[k]at l;cases l;have:=nY (V:=cx w (vW lev (vf S env r)) S') (z:=z') (rows:=(rows.drop lo).take len) (a:=(⟨b,0,none⟩:Addr).add (lo*z')) (cap:=n) (by rw[hl];exact q2)
     (λr hr=>Q r (mem_of_mem_drop (mem_of_mem_take hr))) (λr hr=>F r (mem_of_mem_drop (mem_of_mem_take hr))) (by
      intro i j f x g p;have s:i<len:=by have:=(ia.1 g).1;rw[hl]at this;exact this
      rw[getElem?_take_of_lt s,getElem?_drop]at g;obtain⟨u,Y,C⟩:=h10 (lo+i) j f x g p;refine⟨u,?_,C.iL D (by rw[(F _ (fC g) x (fC p)).2];simp)⟩;rw[add_add,iQ];refine B2 (Jn k t (Uw g K)) ?_;rw[nP w b _ I,<-Y]
      congr 1;rw[Nat.add_mul];omega)
    rw[hl]at this;exact this
  ·exact .undef _
 ·intro off z len bcap v hr;obtain⟨a,O,n,k,rfl,q1,q2,q3⟩:=hr.jm;simp only[cx]at k;cases t:env.o r<;>rw[t]at H<;>simp only[ni]<;>(try exact .undef _);rename_i cs;split
  ·rename_i T;simp only[Bool.and_eq_true,bO,cg]at T;obtain⟨hp,hle⟩:=T;by_cases U:len=0
   ·subst U;simp only[rowsOf];cases O with
    |none=>rw[q3.1 rfl];exact .slnil _
    |some ad=>exact nY (rows:=[]) (by simp) (by simp) (by simp) (by simp)
   have ha:=q1 U;subst ha;obtain⟨b,o,c,E,l,I,h3,K,Q,F,R⟩:=H;rw[k]at l;cases l;have M:∀(i:Nat) f,(rowsOf z len (cs.drop off))[i]?=some f->i<len/\f=((cs.drop off).drop (i*z)).take z:=by
    intro i f g;have:=(ia.1 g).1;rw[ku]at this;exact⟨this,sY _ _ _ _ _ g⟩
   have J:∀i,i<len->∀x∈((cs.drop off).drop (i*z)).take z,x∈(cs.drop off).take (len*z):=by
    intro i g x Z;obtain⟨m,N⟩:=mem_iff_getElem?.1 Z;have X:m<z:=by have:=(ia.1 N).1;simp at this;omega
    rw[getElem?_take_of_lt X,getElem?_drop]at N;refine fC (i:=i*z+m) ?_;rw[getElem?_take_of_lt (um X g)];exact N
   have:=nY (V:=cx w (vW lev (vf S env r)) S') (z:=z) (rows:=rowsOf z len (cs.drop off)) (a:=(⟨b,o,none⟩:Addr).add off) (cap:=n) (by rw[ku];exact q2)
    (by
     intro f q;obtain⟨i,g⟩:=mem_iff_getElem?.1 q;obtain⟨s,rfl⟩:=M i f g;have:(i+1)*z<=len*z:=pH z s;rw[Nat.succ_mul]at this
     simp;omega)
    (by
     intro f q x Z;obtain⟨i,g⟩:=mem_iff_getElem?.1 q;obtain⟨s,rfl⟩:=M i f g
     exact Ck (hp x (J i s x Z)))
    (by
     intro i j f x g p;obtain⟨s,rfl⟩:=M i f g;have ae:=Ck (hp x (J i s x (fC p)));have ab:j<z:=by have:=(ia.1 p).1;simp at this;omega
     rw[getElem?_take_of_lt ab,getElem?_drop,getElem?_drop]at p;have A:o+(off+(i*z+j))<c.size:=by have:=(ia.1 p).1;omega
     refine⟨c[o+(off+(i*z+j))],?_,(R _ _ x (by simp[A]) p).iL D (by rw[ae.2];simp)⟩;rw[add_add,iQ]
     exact B2 (Sc k t) (by rw[nP w b _ I];simp[A]))
   rw[ku]at this;exact this
  ·exact .undef _

theorem Qq(h:Inv w0 l0 G S0 w lev own S env tm)(r:Nat){v:Value}{d:D}(hr:aO (cx w lev S) v d):aO (cx w (vW lev (vf S env r)) (lP S r none)) v (pJ (env.o r) r d):=by
 obtain⟨J,K,M,N,O⟩:=abw h r (lP S r none);have F:=D9 (w:=w) (lev:=lev) (vf S env r);have same:∀{v:Value} {d:D},aO (cx w lev S) v d->r∉d.names->aO (cx w (vW lev (vf S env r)) (lP S r none)) v d:=by
  intro v d hr E;refine hr.iL F ?_;intro s c u I;rw[gX _ _ (by rintro rfl;exact E c)];exact I
 have q:∀(vs:Array Value)(ds:List D),vs.size=ds.length->(∀(i:Nat) v d,vs[i]?=some v->ds[i]?=some d->aO (cx w (vW lev (vf S env r)) (lP S r none)) v (pJ (env.o r) r d)) ->
   vs.size=(Ac (env.o r) r ds).length/\∀(i:Nat) v d,vs[i]?=some v->(Ac (env.o r) r ds)[i]?=some d->aO (cx w (vW lev (vf S env r)) (lP S r none)) v d:=by
  intro vs ds l p;rw[EB];refine⟨by simpa using l,?_⟩;intro i v d H A;simp only[getElem?_map]at A;cases e:ds[i]? with
  |none=>rw[e]at A;cases A
  |some x=>rw[e]at A;cases A;exact p i v x H e
 generalize m:cx w lev S=C at hr;induction hr with
 |fn g vs ds l _ p=>obtain⟨j,y⟩:=q vs ds l p;simp only[pJ];exact .fn g vs _ j y
 |agg vs ds l _ p=>obtain⟨j,y⟩:=q vs ds l p;simp only[pJ];exact .agg vs _ j y
 |bD vs ds l _ p=>obtain⟨j,y⟩:=q vs ds l p;simp only[pJ];exact .bD vs _ j y
 |undef v=>exact .undef v
 |bool b=>exact .bool b
 |int k n=>exact .int k n
 |str s=>exact .str s
 |nil=>exact .nil
 |emp a=>exact .emp a
 |ot=>exact .ot
 |iZ=>exact .iZ
 |jW t v=>exact .jW t v
 |qP=>exact .qP
 |slnil z=>exact .slnil z
 |sl z a cap rows f l hz hk hc j _=>subst m;exact same (d:=.sl z rows) (.sl z a cap rows f l hz hk hc j) (by simp[D.names])
 |bG a cs f E hc j _=>subst m;exact same (d:=.bG cs) (.bG a cs f E hc j) (by simp[D.names])
 |ref s a len cap c =>
  subst m;simp only[pJ,tD];by_cases e:s=r
  ·subst e;simp only[beq_self_eq_true,if_true];exact J _ (.ref s a len cap c)
  ·have:(s==r)=false:=by simpa using e
   simp only[this,Bool.false_eq_true,if_false];exact same (.ref s a len cap c) (by simp[D.names,Ne.symm e])
 |addr s off a c =>
  subst m;simp only[pJ,tD];by_cases e:s=r
  ·subst e;simp only[beq_self_eq_true,if_true];exact K off _ (.addr s off a c)
  ·have:(s==r)=false:=by simpa using e
   simp only[this,Bool.false_eq_true,if_false];exact same (.addr s off a c) (by simp[D.names,Ne.symm e])
 |dO s z i k a len cap c =>
  subst m;simp only[pJ,tD];by_cases e:s=r
  ·subst e;simp only[beq_self_eq_true,if_true];exact M z i k _ (.dO s z i k a len cap c)
  ·have:(s==r)=false:=by simpa using e
   simp only[this,Bool.false_eq_true,if_false];exact same (.dO s z i k a len cap c) (by simp[D.names,Ne.symm e])
 |gl s z lo len a a' L cap cap' c q1 q2 q3 =>
  subst m;simp only[pJ,tD];by_cases e:s=r
  ·subst e;simp only[beq_self_eq_true,if_true];exact N z lo len _ (.gl s z lo len a a' L cap cap' c q1 q2 q3)
  ·have:(s==r)=false:=by simpa using e
   simp only[this,Bool.false_eq_true,if_false];exact same (.gl s z lo len a a' L cap cap' c q1 q2 q3) (by simp[D.names,Ne.symm e])
 |dZ s off z len cap a a' c q1 q2 =>
  subst m;simp only[pJ,tD];by_cases e:s=r
  ·subst e;simp only[beq_self_eq_true,if_true];exact O off z len cap _ (.dZ s off z len cap a a' c q1 q2)
  ·have:(s==r)=false:=by simpa using e
   simp only[this,Bool.false_eq_true,if_false];exact same (.dZ s off z len cap a a' c q1 q2) (by simp[D.names,Ne.symm e])

def Inv.frz(h:Inv w0 l0 G S0 w lev own S env tm)(r:Nat):Inv w0 l0 G S0 w (vW lev (vf S env r)) own (lP S r none) (CH r env) tm\/env.o r=.undef:=by
 by_cases q:env.o r=.undef
 ·exact .inr q
 left;have A:∀b k,own b=some k->k≠r->vf S env r≠some b:=by
  intro b k f e d;unfold vf at d;cases n:S r with
  |none=>rw[n]at d;cases d
  |some v =>
   rw[n]at d;simp only[Option.bind_some]at d;cases p:uC v (env.o r)with
   |none=>rw[p]at d;cases d
   |some y =>
    obtain⟨N,lo,I⟩:=y;rw[p]at d;simp only[Option.map_some,qN]at d;subst d;obtain⟨H,_⟩:=(h.objs r).blk n p;rw[f]at H;cases H;exact e rfl
 refine⟨h.os,h.tape,h.output,h.size,h.old,h.part,?_,?_,?_,?_,?_⟩
 ·intro b m f;unfold vW at f;split at f
  ·cases f
  ·exact h.priv b m f
 ·intro b f M;unfold vW;split
  ·rename_i d;exfalso;unfold vf at d;cases n:S r with
   |none=>rw[n]at d;cases d
   |some v =>
    rw[n]at d;simp only[Option.bind_some]at d;cases p:uC v (env.o r)with
    |none=>rw[p]at d;cases d
    |some y =>
     obtain⟨N,lo,I⟩:=y;rw[p]at d;simp only[Option.map_some,qN]at d;subst d;obtain⟨_,_,g,_⟩:=(h.objs r).blk n p;rcases g with g| ⟨l,m,g,_⟩
     ·omega
     ·rw[M]at g;cases g
  ·exact h.mT b f M
 ·intro i I t;simp only[CH]at t;by_cases e:i=r
  ·rw[au e]at t;exact(t rfl).elim
  ·rw[aq e]at t;rw[gX _ _ e];refine h.VH i I ?_;intro F;rw[F]at t;exact t rfl
 ·intro s;exact Qq h r (h.rP s)
 ·intro k;by_cases e:k=r
  ·subst e;simp only[CH,if_true];exact fc _ _ _
  ·simp only[CH,e,if_false];have C:=h.objs k;cases U:env.o k<;>rw[U]at C<;>try exact C.elim
   ·simp only[pJ];show lP S r none k=none;rw[gX _ _ e];exact C
   ·rename_i z rows;simp only[pJ];refine C.keep (D9 _) ?_ (λh=>by cases h) ?_
    ·intro s J u F;rcases J with rfl|J
     ·rw[gX _ _ e];exact F
     ·simp[D.names]at J
    ·intro b f hl;refine⟨rfl,?_,rfl⟩;unfold vW;rw[aq (A b k f e)]
   ·rename_i cs;simp only[pJ];obtain⟨b,o,c,E,H,O,g,Q,L,R,T⟩:=C;rw[EB];refine⟨b,o,c,E,by rw[gX _ _ e];exact H,O,by simpa using g,?_,L,by simpa using R,?_⟩
    ·unfold vW;rw[aq (A b k L e)];exact Q
    ·intro j u x F d;simp only[getElem?_map]at d;cases K:cs[j]? with
     |none=>rw[K]at d;cases d
     |some y=>rw[K]at d;cases d;exact Qq h r (T j u y F K)

theorem Inv.abv:∀(p:List Nat) {lev:Nat->Option Nat} {S:Nat->Option Value} {env:Env},Inv w0 l0 G S0 w lev own S env tm->(∀r∈p,True)->∃lev' S',Inv w0 l0 G S0 w lev' own S' (iY p env) tm
 | [],lev,S,env,h,_=>⟨lev,S,h⟩
 |k::p,lev,S,env,h,hk=>by
  by_cases A:env.o k=.undef
  ·-- nothing is let go: what names it is forgotten
   have q:=h.fresh A;have f:Inv w0 l0 G S0 w lev own S (CH k env) tm:=by
    have m:∀{v:Value} {d:D},aO (cx w lev S) v d->aO (cx w lev S) v (pJ (env.o k) k d):=by
     intro v d hr;have:=Qq h k hr;have C:vW lev (vf S env k)=lev:=by
      funext b;unfold vW vf;rw[q];simp
     have e2:lP S k none=S:=by
      funext s;by_cases e:s=k
      ·subst e;rw[fc,q]
      ·exact gX _ _ e
     rw[C,e2]at this;exact this
    refine⟨h.os,h.tape,h.output,h.size,h.old,h.part,h.priv,h.mT,?_,λs=>m (h.rP s),?_⟩
    ·intro i f l;simp only[CH]at l;split at l
     ·exact(l rfl).elim
     ·refine h.VH i f ?_;intro g;rw[g]at l;exact l rfl
    ·intro s;simp only[CH];split
     ·rename_i e;subst e;exact q
     ·have n:=h.objs s;cases N:env.o s<;>rw[N]at n<;>try exact n.elim
      ·exact n
      ·exact n
      ·rename_i cs;simp only[pJ];obtain⟨b,o,c,E,F,H,I,J,K,L,M⟩:=n;rw[EB];refine⟨b,o,c,E,F,H,by simpa using I,J,K,by simpa using L,?_⟩;intro j u x t g;simp only[getElem?_map]at g;cases z:cs[j]? with
       |none=>rw[z]at g;cases g
       |some y=>rw[z]at g;cases g;exact m (M j u y t z)
   exact Inv.abv p f (λ_ _=>trivial)
  ·rcases h.frz k with f|f
   ·exact Inv.abv p f (λ_ _=>trivial)
   ·exact(A f).elim
end
end Go.Abs
namespace Go.Abs

mutual
/-- what is known by d (with the elder names) is known by d' (with the new ones): rho tells the elder name of a new one, none: of an empty slice that was nil; e: is the new name alive? -/
def nT(oV:Nat->Option Nat)(e:Nat->Bool):D->D->Prop
 | _,.undef=>True
 | .ref r,.ref s=>oV s=some r/\e s=true
 | .nil,.ref s=>oV s=none/\e s=true
 | .addr r o,.addr s o'=>oV s=some r/\e s=true/\o=o'
 | .dO r z i k,.dO s z' i' k'=>oV s=some r/\e s=true/\z=z'/\i=i'/\k=k'
 | .gl r z l m,.gl s z' l' m'=>oV s=some r/\e s=true/\z=z'/\l=l'/\m=m'
 | .dZ r o z m c,.dZ s o' z' m' c'=>oV s=some r/\e s=true/\o=o'/\z=z'/\m=m'/\c=c'
 | .agg a,.agg b=>nM oV e a b
 | .bD a,.bD b=>nM oV e a b
 | .fn f a,.fn g b=>f=g/\nM oV e a b
 | .nil,.sl _ rows=>rows=[]
 | .nil,.emp=>True
 | .nil,.nil=>True
 | .emp,.emp=>True
 | .ot,.ot=>True
 | .iZ,.iZ=>True
 | .jW,.jW=>True
 | .qP,.qP=>True
 | .bool a,.bool b=>a=b
 | .int k a,.int k' b=>k=k'/\a=b
 | .str a,.str b=>a=b
 | .sl z a,.sl z' b=>z=z'/\a=b
 | .bG a,.bG b=>a=b
 | _,_=>False
def nM(oV:Nat->Option Nat)(c:Nat->Bool):List D->List D->Prop
 | [],[]=>True
 |a::x,b::y=>nT oV c a b/\nM oV c x y
 | _,_=>False
end
theorem EM{oV:Nat->Option Nat}{e:Nat->Bool}:∀{a b:List D},nM oV e a b->a.length=b.length/\∀(i:Nat) x y,a[i]?=some x->b[i]?=some y->nT oV e x y
 | [],[],_=>⟨rfl,λi x y h=>by simp at h⟩
 | [],_::_,h=>by simp[nM]at h
 | _::_,[],h=>by simp[nM]at h
 |a::x,b::y,h=>by
  simp only[nM]at h;obtain⟨f,g⟩:=EM h.2;refine⟨by simp[f],?_⟩;intro i u v c d;cases i with
  |zero=>simp at c d;subst c;subst d;exact h.1
  |succ i=>simp at c d;exact g i u v c d
def Ze(oV:Nat->Option Nat)(c:Nat->Bool):D->D->Prop
 | .box a,.box b=>nM oV c a b
 | .own z a,.own z' b=>z=z'/\a=b
 | _,_=>False

theorem nT.rep{C C':Cx}{oV:Nat->Option Nat}{x:Nat->Bool}(B:∀a v,C.V a=some v->C'.V a=some v)(p:∀s r,oV s=some r->x s=true->∀u,C.S r=some u->C'.S s=some u)(E:∀s,oV s=none->x s=true->C'.S s=some (.slice none 0 0))
  {v:Value} {d:D} (r:aO C v d):∀{e:D},nT oV x d e->aO C' v e:=by
 have o:∀(vs:Array Value)(ds:List D)(ds':List D),vs.size=ds.length->(∀(i:Nat) v d,vs[i]?=some v->ds[i]?=some d->∀{e:D},nT oV x d e->aO C' v e)->nM oV x ds ds' ->
   vs.size=ds'.length/\∀(i:Nat) v d,vs[i]?=some v->ds'[i]?=some d->aO C' v d:=by
  intro vs ds ds' l m y;obtain⟨g,j⟩:=EM y;refine⟨l.trans g,?_⟩;intro i v d F c;have q:i<ds.length:=by rw[g];exact(ia.1 c).1
  exact m i v _ F (gF q) (j i _ d (gF q) c)
 induction r with
 |fn f vs ds l h m=>intro e c;cases e<;>simp only[nT]at c<;>first|exact .undef _|exact c.elim|skip;(obtain⟨rfl,c⟩:=c;obtain⟨g,j⟩:=o vs ds _ l m c;exact .fn f vs _ g j)
 |agg vs ds l h m=>intro e c;cases e<;>simp only[nT]at c<;>first|exact .undef _|exact c.elim|skip;(obtain⟨g,j⟩:=o vs ds _ l m c;exact .agg vs _ g j)
 |bD vs ds l h m=>intro e c;cases e<;>simp only[nT]at c<;>first|exact .undef _|exact c.elim|skip;(obtain⟨g,j⟩:=o vs ds _ l m c;exact .bD vs _ g j)
 |undef v=>intro e c;cases e<;>simp only[nT]at c<;>first|exact .undef _|exact c.elim
 |bool b=>intro e c;cases e<;>simp only[nT]at c<;>first|exact .undef _|exact c.elim| (subst c;exact .bool _)
 |int k n=>intro e c;cases e<;>simp only[nT]at c<;>first|exact .undef _|exact c.elim| (obtain⟨rfl,rfl⟩:=c;exact .int _ _)
 |str s=>intro e c;cases e<;>simp only[nT]at c<;>first|exact .undef _|exact c.elim| (subst c;exact .str _)
 |nil =>
  intro e c;cases e<;>simp only[nT]at c<;>first|exact .undef _|exact c.elim|exact .nil|exact .emp _|skip
  ·subst c;exact .slnil _
  ·exact .ref _ none 0 0 (E _ c.1 c.2)
 |emp a=>intro e c;cases e<;>simp only[nT]at c<;>first|exact .undef _|exact c.elim|exact .emp _
 |ot=>intro e c;cases e<;>simp only[nT]at c<;>first|exact .undef _|exact c.elim|exact .ot
 |iZ=>intro e c;cases e<;>simp only[nT]at c<;>first|exact .undef _|exact c.elim|exact .iZ
 |jW t v=>intro e c;cases e<;>simp only[nT]at c<;>first|exact .undef _|exact c.elim|exact .jW _ _
 |qP=>intro e c;cases e<;>simp only[nT]at c<;>first|exact .undef _|exact c.elim|exact .qP
 |slnil z=>intro e c;cases e<;>simp only[nT]at c<;>first|exact .undef _|exact c.elim| (obtain⟨rfl,rfl⟩:=c;exact .slnil _)
 |sl z a cap rows f l hz hk hc g _ =>
  intro e c;cases e<;>simp only[nT]at c<;>first|exact .undef _|exact c.elim|skip
  obtain⟨rfl,rfl⟩:=c;exact aO.keep (d:=.sl z rows) B (.sl z a cap rows f l hz hk hc g) (λs A=>by simp[D.names]at A)
 |bG a cs f hn hc g _ =>
  intro e c;cases e<;>simp only[nT]at c<;>first|exact .undef _|exact c.elim|skip
  subst c;exact aO.keep (d:=.bG cs) B (.bG a cs f hn hc g) (λs A=>by simp[D.names]at A)
 |ref r a len cap h=>intro e c;cases e<;>simp only[nT]at c<;>first|exact .undef _|exact c.elim|exact .ref _ a len cap (p _ _ c.1 c.2 _ h)
 |addr r off a h=>intro e c;cases e<;>simp only[nT]at c<;>first|exact .undef _|exact c.elim| (obtain⟨g,j,rfl⟩:=c;exact .addr _ _ a (p _ _ g j _ h))
 |dO r z i k a len cap h=>intro e c;cases e<;>simp only[nT]at c<;>first|exact .undef _|exact c.elim| (obtain⟨g,j,rfl,rfl,rfl⟩:=c;exact .dO _ _ _ _ a len cap (p _ _ g j _ h))
 |gl r z lo len a a' L cap cap' h q1 q2 q3=>intro e c;cases e<;>simp only[nT]at c<;>first|exact .undef _|exact c.elim| (obtain⟨g,j,rfl,rfl,rfl⟩:=c;exact .gl _ _ _ _ a a' L cap cap' (p _ _ g j _ h) q1 q2 q3)
 |dZ r off z len cap a a' h q1 q2=>intro e c;cases e<;>simp only[nT]at c<;>first|exact .undef _|exact c.elim| (obtain⟨g,j,rfl,rfl,rfl,rfl⟩:=c;exact .dZ _ _ _ _ _ a a' (p _ _ g j _ h) q1 q2)

structure LeE(m:Nat)(oV:Nat->Option Nat)(e E:Env):Prop where
 rP:∀j,nT oV (λs=>!gz (E.o s)) (e.t j) (E.t j)
 objs:∀s,E.o s≠.undef->match oV s with
  |some r=>Ze oV (λs=>!gz (E.o s)) (e.o r) (E.o s)
  |none=>∃z,E.o s=.own z []
 inj:∀s s' r,E.o s≠.undef->E.o s'≠.undef->oV s=some r->oV s'=some r->s=s'
 VH:∀s,s<m->E.o s≠.undef->oV s=some s

def Bk{d:D}:gz d=true↔d=.undef:=by cases d<;>simp[gz]

section
variable{P:Program}{w0 w w':World}{l0:Nat->Option Nat}{G:Nat->Option (Nat×Nat)}{S0:Nat->Option Value}{lev lev' own own':Nat->Option Nat}{S S':Nat->Option Value}{env env':Env}{tm tm':Nat->Value}

def Inv.ao8{m:Nat}(hm:m<=16){oV:Nat->Option Nat}{E:Env}(h:Inv w0 l0 G S0 w lev own S env tm)(K:LeE m oV env E):∃own' S',(∀i,i<m->E.o i≠.undef->S' i=S0 i)/\(∀s,aO (cx w lev S') (tm s) (E.t s))/\∀r,n8 w0.heap.size G w lev own' S' r (E.o r):=by
 let S':Nat->Option Value:=λs=>if gz (E.o s)then none else match oV s with
  |some r=>S r
  |none=>some (.slice none 0 0)
 let own':Nat->Option Nat:=λb=>(own b).bind λr=>open Classical in if h:∃s,E.o s≠.undef/\oV s=some r then some (Classical.choose h)else none
 have O:∀s r,oV s=some r->(!gz (E.o s))=true->∀u,S r=some u->S' s=some u:=by
  intro s r hr f u p;simp only[iN]at f;simp only[S',f,hr,Bool.false_eq_true,if_false];exact p
 have hN:∀s,oV s=none->(!gz (E.o s))=true->S' s=some (.slice none 0 0):=by
  intro s hr f;simp only[iN]at f;simp only[S',f,hr,Bool.false_eq_true,if_false]
 have n:∀{v:Value} {d Y:D},aO (cx w lev S) v d->nT oV (λs=>!gz (E.o s)) d Y->aO (cx w lev S') v Y:=λhr hd=>nT.rep (C:=cx w lev S) (C':=cx w lev S') (λ_ _ h=>h) O hN hr hd;refine⟨own',S',?_,?_,?_⟩
 ·intro i Q H;have hr:=K.VH i Q H;have g:=K.objs i H;rw[hr]at g;have W:env.o i≠.undef:=by
   intro e;simp only[e]at g;cases q:E.o i<;>rw[q]at g<;>exact g.elim
  have f:gz (E.o i)=false:=by
   cases q:gz (E.o i)with
   |false=>rfl
   |true=>exact(H (Bk.1 q)).elim
  simp only[S',f,hr,Bool.false_eq_true,if_false];exact h.VH i (by omega) W
 ·intro s;exact n (h.rP s) (K.rP s)
 ·intro s;by_cases p:E.o s=.undef
  ·rw[p];show S' s=none;simp[S',p,gz]
  have f:(!gz (E.o s))=true:=by
   cases q:gz (E.o s)with
   |false=>rfl
   |true=>exact(p (Bk.1 q)).elim
  have g:=K.objs s p;cases hr:oV s with
  |none =>
   rw[hr]at g;obtain⟨z,hz⟩:=g;have hn:=hN s hr f;rw[hz];exact .inl ⟨none,hn,rfl⟩
  |some r =>
   rw[hr]at g;simp only at g;have y:=h.objs r;have l:∀b,own b=some r->own' b=some s:=by
    intro b hb;simp only[own',hb,Option.bind_some];have I:∃s,E.o s≠.undef/\oV s=some r:=⟨s,p,hr⟩
    rw[dif_pos I];have hc:=Classical.choose_spec I;rw[K.inj _ _ r hc.1 p hc.2 hr]
   cases hE:E.o s<;>rw[hE]at g<;>cases H:env.o r<;>rw[H]at g y<;>simp only[Ze]at g
   ·obtain⟨rfl,rfl⟩:=g;rename_i z rows;rcases y with⟨a,B,F⟩| ⟨b,c,R,cap,B,F,Z,T,U,N,V,h8,h9,h10⟩
    ·exact .inl ⟨a,O s r hr f _ B,F⟩
    ·refine .inr ⟨b,c,R,cap,O s r hr f _ B,F,Z,T,U,N,V,l b h8,h9,?_⟩;intro i j M d Q hj;obtain⟨u,A,X⟩:=h10 i j M d Q hj;exact⟨u,A,X.iL (.refl _ _) (by rw[(N M (fC Q) d (fC hj)).2];simp)⟩
   ·rename_i a b';obtain⟨k,J⟩:=EM g;obtain⟨b,o,c,R,B,F,Z,T,U,N,V⟩:=y;refine⟨b,o,c,R,O s r hr f _ B,F,by omega,T,l b U,by rw[<-k];exact N,?_⟩;intro j u x A q;have L:j<b'.length:=by rw[k];exact(ia.1 q).1
    exact n (V j u _ A (gF L)) (J j _ x (gF L) q)
def Inv.le{oV:Nat->Option Nat}{E:Env}(h:Inv w0 l0 G S0 w lev own S env tm)(d:LeE 16 oV env E):∃own' S',Inv w0 l0 G S0 w lev own' S' E tm:=by
 obtain⟨own',S',a,b,c⟩:=h.ao8 (fO _) d;exact⟨own',S',h.os,h.tape,h.output,h.size,h.old,h.part,h.priv,h.mT,a,b,c⟩
end

def look:List (Nat×D)->Nat->D
 | [],_=>.undef
 |x::r,j=>if j=x.1 then x.2 else look r j
def uT(ts os:List (Nat×D)):Env:=⟨look ts,look os⟩
mutual
def Al:D->D->List (Nat×Option Nat)
 | .ref s,.ref r=>[(s,some r)]
 | .ref s,.nil=>[(s,none)]
 | .addr s _,.addr r _=>[(s,some r)]
 | .dO s _ _ _,.dO r _ _ _=>[(s,some r)]
 | .gl s _ _ _,.gl r _ _ _=>[(s,some r)]
 | .dZ s _ _ _ _,.dZ r _ _ _ _=>[(s,some r)]
 | .agg a,.agg b=>E2 a b
 | .bD a,.bD b=>E2 a b
 | .fn _ a,.fn _ b=>E2 a b
 | .box a,.box b=>E2 a b
 | _,_=>[]
def E2:List D->List D->List (Nat×Option Nat)
 |a::x,b::y=>Al a b++E2 x y
 | _,_=>[]
end
def oV(l:List (Nat×Option Nat))(s:Nat):Option Nat:=
 match l with
 | []=>some s
 |x::r=>if s=x.1 then x.2 else oV r s
def Wi(e:Env):List (Nat×D)->List (Nat×Option Nat)
 | []=>[]
 |x::r=>Al x.2 (e.t x.1)++Wi e r
def oAt(e:Env):Option Nat->D
 |some r=>e.o r
 |none=>.undef
def ZM(e:Env)(l:List (Nat×Option Nat)):List (Nat×D)->List (Nat×Option Nat)
 | []=>[]
 |x::r=>Al x.2 (oAt e (oV l x.1))++ZM e l r
def Vm(os:List (Nat×D))(s:Nat):Bool:=
 match os with
 | []=>false
 |x::r=>if s=x.1 then true else Vm r s
def Yp(e:Env)(a:Nat->Option Nat)(os:List (Nat×D)):List (Nat×D)->Prop
 | []=>True
 |x::r=>nT a (Vm os) (e.t x.1) x.2/\Yp e a os r
def Kh:D->Prop
 | .own _ rows=>rows=[]
 | _=>False
def PM(e:Env)(a:Nat->Option Nat)(os:List (Nat×D))(d:D):Option Nat->Prop
 |some r=>Ze a (Vm os) (e.o r) d
 |none=>Kh d
def nx(o:Option Nat)(b:Nat->Option Nat):List (Nat×D)->Prop
 | []=>True
 |x::r=>(match o with
  |some a=>b x.1≠some a
  |none=>True)/\nx o b r
def N6(m s:Nat)(o:Option Nat):Prop:=m<=s\/o=some s
def Mw(m:Nat)(e:Env)(a:Nat->Option Nat)(os:List (Nat×D)):List (Nat×D)->Prop
 | []=>True
 |x::r=>Vm r x.1=false/\PM e a os x.2 (a x.1)/\nx (a x.1) a r/\N6 m x.1 (a x.1)/\Mw m e a os r
def LeR(m:Nat)(e:Env)(ts os:List (Nat×D))(l:List (Nat×Option Nat)):Prop:=Yp e (oV l) os ts/\Mw m e (oV l) os os
def LeP(m:Nat)(e:Env)(ts os:List (Nat×D))(l:List (Nat×Option Nat)):Prop:=LeR m e ts os (l++ZM e l os)
def LeM(m:Nat)(e:Env)(ts os:List (Nat×D)):Prop:=LeP m e ts os (Wi e ts)
def Mv(e:Env)(ts os:List (Nat×D)):Prop:=LeM 16 e ts os

theorem abI{os:List (Nat×D)}{e:Env}{f:Nat->Option Nat}{c:List (Nat×D)}{m:Nat}(h:Mw m e f c os)(s:Nat):Vm os s = !gz (look os s):=by
 induction os with
 |nil=>rfl
 |cons x r ih =>
  obtain⟨h1,a,h3,h4,g⟩:=h;simp only[Vm,look];by_cases d:s=x.1
  ·subst d;simp only[if_true];cases hr:f x.1 with
   |none=>rw[hr]at a;cases b:x.2<;>rw[b]at a<;>simp[PM,Kh]at a<;>rfl
   |some r=>rw[hr]at a;cases b:x.2<;>rw[b]at a<;>cases i:e.o r<;>simp only[PM,i,Ze]at a<;>rfl
  ·simp only[aq d];exact ih g
def MY{b:Nat->Option Nat}{a:Nat->Bool}(d:D):nT b a d .undef:=by cases d<;>simp[nT]
def LeM.le{m:Nat}{e:Env}{ts os:List (Nat×D)}(h:LeM m e ts os):∃d,LeE m d e (uT ts os):=by
 unfold LeM LeP LeR at h;generalize oV _=d at h;obtain⟨B,f⟩:=h;have g:Vm os=λs=>!gz ((uT ts os).o s):=by funext s;exact abI f s
 refine⟨d,?_,?_,?_,?_⟩
 ·intro j;rw[<-g];show nT d (Vm os) (e.t j) (look ts j);clear g f;induction ts with
  |nil=>exact MY _
  |cons x r ih =>
   simp only[look];by_cases i:j=x.1
   ·subst i;simp only[if_true];exact B.1
   ·simp only[aq i];exact ih B.2
 ·intro s c;rw[<-g];show match d s with|some r=>Ze d (Vm os) (e.o r) (look os s)|none=>∃z,look os s=.own z []
  have b:look os s≠.undef:=c;clear g B c
  suffices hh:∀a:List (Nat×D),Mw m e d os a->look a s≠.undef->match d s with|some r=>Ze d (Vm os) (e.o r) (look a s)|none=>∃z,look a s=.own z []from hh os f b
  intro a;induction a with
  |nil=>intro _ h;exact(h rfl).elim
  |cons x r ih =>
   intro f b;obtain⟨E,k,g3,n,u⟩:=f;simp only[look]at b |-
   by_cases i:s=x.1
   ·subst i;simp only[if_true];cases hr:d x.1 with
    |none =>
     rw[hr]at k;cases H:x.2<;>rw[H]at k<;>simp only[PM,Kh]at k;subst k;exact⟨_,rfl⟩
    |some r'=>rw[hr]at k;exact k
   ·simp only[aq i]at b |-;exact ih u b
 ·intro s p r c b hr y;have c:look os s≠.undef:=c;have b:look os p≠.undef:=b
  suffices hh:∀a:List (Nat×D),Mw m e d os a->look a s≠.undef->look a p≠.undef->s=p from hh os f c b
  have v:∀(a:List (Nat×D))(t:Nat),look a t≠.undef->d t=some r->¬nx (some r) d a:=by
   intro a t;induction a with
   |nil=>intro h;exact(h rfl).elim
   |cons x q ih =>
    intro C A F;simp only[look]at C;by_cases i:t=x.1
    ·subst i;exact F.1 A
    ·simp only[aq i]at C;exact ih C A F.2
  intro a;induction a with
  |nil=>intro _ h;exact(h rfl).elim
  |cons x q ih =>
   intro f c b;obtain⟨E,k,g3,n,u⟩:=f;simp only[look]at c b;by_cases l:s=x.1
   ·by_cases e2:p=x.1
    ·exact l.trans e2.symm
    ·simp only[aq e2]at b;subst l;rw[hr]at g3;exact(v q p b y g3).elim
   ·by_cases e2:p=x.1
    ·simp only[aq l]at c;subst e2;rw[y]at g3;exact(v q s c hr g3).elim
    ·simp only[aq l]at c;simp only[aq e2]at b;exact ih u c b
 ·intro s hlt c;have c:look os s≠.undef:=c
  suffices hh:∀a:List (Nat×D),Mw m e d os a->look a s≠.undef->d s=some s from hh os f c
  intro a;induction a with
  |nil=>intro _ h;exact(h rfl).elim
  |cons x q ih =>
   intro f c;obtain⟨E,k,g3,n,u⟩:=f;simp only[look]at c;by_cases l:s=x.1
   ·subst l;rcases n with n|n
    ·omega
    ·exact n
   ·simp only[aq l]at c;exact ih u c
def Mv.le{e:Env}{ts os:List (Nat×D)}(h:Mv e ts os):∃a,LeE 16 a e (uT ts os):=LeM.le h
end Go.Abs
namespace Go.Abs

def Enters (P : Program) (f : FuncId) : Prop := ∃ fn, P.funcs[f]? = some fn /\ fn.body.isSome = true /\ (fn.name == "runtime.NumGoroutine") = false

def Spec(P:Program)(f:FuncId)(o ds l:List D)(d:D):Prop:=
 Enters P f/\∀(w:World)(j:Nat->Option Nat)(h:Nat->Option (Nat×Nat))(g:Nat->Option Nat)(k:Nat->Option Value)(vs:Array Value),aaX w h->(∀b m,j b=some m->b<w.heap.size)->(∀b lo n,h b=some (lo,n)->pG w w b lo n)->vs.size=ds.length ->
  (∀(i:Nat) v x,vs[i]?=some v->ds[i]?=some x->aO (cx w j k) v x)->(∀r,n8 w.heap.size h w j g k r (o.getD r .undef))->Calls P f vs w λe w'=>∃v,e=.returned v/\Out o.length l w j h k w' v d

def Eg(P:Program)(f:FuncId)(o ds:List D)(Φ:List D->D->Prop):Prop:=
 Enters P f/\∀(w:World)(k:Nat->Option Nat)(j:Nat->Option (Nat×Nat))(h:Nat->Option Nat)(l:Nat->Option Value)(vs:Array Value),aaX w j->(∀b m,k b=some m->b<w.heap.size)->(∀b lo n,j b=some (lo,n)->pG w w b lo n)->vs.size=ds.length ->
  (∀(i:Nat) v x,vs[i]?=some v->ds[i]?=some x->aO (cx w k l) v x)->(∀r,n8 w.heap.size j w k h l r (o.getD r .undef))->Calls P f vs w λe w'=>∃v g d,Φ g d/\e=.returned v/\Out o.length g w k j l w' v d

def jl(g:Bool)(ok:Prop)(v:D)(k:D->Prop):Prop:=(g=true->ok)/\k (gd g v)
def Norm(v:D)(k:D->Prop):Prop:=k v
def GK(g:Bool)(a b:Prop):Prop:=(g=true->a)/\(g=false->b)

def qT(P:Program)(e:Env)(d:Nat)(args:List Operand)(gs:List Nat)(bw:Bool)(f:List D)(g:D)(K:Env->Prop)(i:D):Prop:=
 match i with
 | .fn k caps=>gs.Nodup/\(∀r∈gs,e.o r≠.undef)/\(∀r∈nU d 0 (f.length-gs.length),e.o r=.undef)/\(gs.length<=f.length/\f.length<=gs.length+16)/\(bw=true->uV g/\∀h∈f,zw h) /\
   Spec P k (gs.map λr=>AV bw gs e.o 4 (e.o r)) ((args.map (rd e)++caps).map (conv bw gs e.o 4)) f g/\K (fM e d gs f g)
 | _=>False
def Ja(P:Program)(e:Env)(d:Nat)(args:List Operand)(gs:List Nat)(bw:Bool)(Φ:List D->D->Prop)(K:Env->Prop)(i:D):Prop:=
 match i with
 | .fn k caps=>gs.Nodup/\(∀r∈gs,e.o r≠.undef)/\Eg P k (gs.map λr=>AV bw gs e.o 4 (e.o r)) ((args.map (rd e)++caps).map (conv bw gs e.o 4)) Φ /\
   ∀f g,Φ f g->(∀r∈nU d 0 (f.length-gs.length),e.o r=.undef)/\(gs.length<=f.length/\f.length<=gs.length+16)/\(bw=true->uV g/\∀h∈f,zw h)/\K (fM e d gs f g)
 | _=>False
def KW(dr:Bool)(K:Env->Prop)(e:Env):Prop:=K e\/(dr=false/\∃ts os,Mv e ts os/\K (uT ts os))
variable{K' K:Env->Prop}
def KW.mono{dr:Bool}(h:∀e,K e->K' e)(e:Env)(d:KW dr K e):KW dr K' e:=
 d.imp (h e) λ⟨hd,ts,os,hl,d⟩=>⟨hd,ts,os,hl,h _ d⟩
variable{e:Env}
def KW.drawn(d:KW true K e):K e:=d.elim id λh=>(sD h.1.symm).elim
variable{b c:D}{a:List D}{P:Program}
def vc{d:Nat}{args:List Operand}{gs:List Nat}{bw:Bool}(h:∀e,K e->K' e)(f:qT P e d args gs bw a b K c):qT P e d args gs bw a b K' c:=by
 unfold qT at f |-;split at f
 ·exact⟨f.1,f.2.1,f.2.2.1,f.2.2.2.1,f.2.2.2.2.1,f.2.2.2.2.2.1,h _ f.2.2.2.2.2.2⟩
 ·exact f.elim
def Ee(P:Program)(dr:Bool)(e:Env)(d:Nat)(f:Operand)(args:List Operand)(K:Env->Prop):Prop:=
 ∃(fz gs:List Nat)(bw:Bool)(g:List D)(h:D),(dr=true->fz=[]/\gs=[])/\qT P (iY fz e) d args gs bw g h (KW dr K) (rd (iY fz e) f)

def StB(P:Program)(e:Env)(t:TypeId)(r off:Nat)(v:D)(K:Env->Prop)(d:D):Prop:=
 match d with
 | .box cs=>match jx P t with
  |some l=>off+l.sz<=cs.length/\v.cells.length=l.sz/\(∀c∈v.cells,gM c)/\K (eV e r (.box (kI cs off v.cells)))
  |none=>False
 | _=>False
def StO(P:Program)(e:Env)(t:TypeId)(r z i k:Nat)(v:D)(K:Env->Prop)(d:D):Prop:=
 match d with
 | .own z' rows=>match jx P t with
  |some l=>z'=z/\i<rows.length/\k+l.sz<=z/\v.cells.length=l.sz/\(∀c∈v.cells,cE c)/\K (eV e r (.own z (rows.set i (kI (rows.getD i []) k v.cells))))
  |none=>False
 | _=>False
def Yq(P:Program)(e:Env)(t:TypeId)(a:D)(K:Env->Prop)(v:D):Prop:=
 match a with
 | .addr r off=>StB P e t r off v K (e.o r)
 | .dO r z i k=>StO P e t r z i k v K (e.o r)
 | _=>False

def ad4(e:Env)(d:Nat)(K:Env->Prop)(v:D):Prop:=
 (∀c∈v.cells,gM c)/\e.o (nm d 0)=.undef/\K (cQ (eV e (nm d 0) (.box v.cells)) d (.addr (nm d 0) 0))
def Yk(e:Env)(d:Nat)(K:Env->Prop)(z:Option (List D)):Prop:=
 match z with
 |some z=>e.o (nm d 0)=.undef/\K (cQ (eV e (nm d 0) (.box z)) d (.addr (nm d 0) 0))
 |none=>False

def gr(P:Program)(t:TypeId):Option (List D):=
 match P.underlying t with
 |some (.slice e)=>oI P e
 | _=>none
def nO(e:Env)(z:Nat)(parts:List (Nat×Operand)):List (Nat×Nat×D):=parts.map λx=>(x.1*z,z,rd e x.2)
def El(zc:List D)(e:Env)(z len:Nat)(parts:List (Nat×Operand)):List D:=
 pR (List.replicate len zc).flatten (nO e z parts)
def Vo(e:Env)(len:Nat)(parts:List (Nat×Operand))(d:Nat)(K:Env->Prop)(t:Ty)(zc:Option (List D)):Prop:=
 match t,zc with
 | .slice z _ _,some zc=>len*z<=2^24/\zc.length=z/\sK (len*z) (nO e z parts)/\(∀c∈El zc e z len parts,cE c)/\e.o (nm d 0)=.undef /\
   K (cQ (eV e (nm d 0) (.own z (rowsOf z len (El zc e z len parts)))) d (.ref (nm d 0)))
 | _,_=>False
def uJ(e:Env)(parts:List (Nat×Operand)):List Nat:=D.cq (parts.map λx=>rd e x.2)

def mM(z:Nat):D->Option (List (List D))
 | .sl z' rows=>if z'=z then some rows else none
 | .nil=>some []
 | .emp=>some []
 | _=>none
def Yl(e:Env)(z f d:Nat)(rows2:List (List D))(K:Env->Prop)(r:Nat)(g:D):Prop:=
 match g with
 | .own z' rows=>z'=z/\(f+1)*(rows.length+rows2.length)<=2^45/\(nr r e).o (nm d 0)=.undef/\K (cQ (eV (nr r e) (nm d 0) (.own z (rows++rows2))) d (.ref (nm d 0)))
 | _=>False
def AD(e:Env)(z f d:Nat)(K:Env->Prop)(v:D)(y:Option (List (List D))):Prop:=
 match v,y with
 | .nil,some rows2=>(f+(1-f))*rows2.length<=2^47/\e.o (nm d 0)=.undef/\K (cQ (eV e (nm d 0) (.own z rows2)) d (.ref (nm d 0)))
 | .emp,some rows2=>(f+(1-f))*rows2.length<=2^47/\e.o (nm d 0)=.undef/\K (cQ (eV e (nm d 0) (.own z rows2)) d (.ref (nm d 0)))
 | .ref r,some rows2=>Yl e z f d rows2 K r (e.o r)
 | _,_=>False
def uE(e:Env)(d:Nat)(K:Env->Prop)(x y:D)(t t2:Ty):Prop:=
 match t,t2 with
 | .slice z by_ _,.slice _ _ _=>by_<=2^32/\AD e z by_ d K x (mM z (qS e.o [] 2 y))
 | _,_=>False

def MkK(e:Env)(d:Nat)(K:Env->Prop)(l c:D)(t:Ty)(zc:Option (List D)):Prop:=
 match t,l,c,zc with
 | .slice z by_ _,.int _ n,.int _ m,some zc=>0<=n/\n<=m/\m<=2^40/\by_*m<=2^47/\zc.length=z/\(∀d∈zc,cE d)/\e.o (nm d 0)=.undef /\
   K (cQ (eV e (nm d 0) (.own z (List.replicate n.toNat zc))) d (.ref (nm d 0)))
 | _,_,_,_=>False

def Cont(n:Nat)(i:World)(h:Nat->Option Nat)(G:Nat->Option (Nat×Nat))(g:Nat->Option Value)(K:Env->Prop)(next:Act->World->Prop):Prop:=
 ∀(f:Env) lev' own' S' w' (d:Act),d.tmps.size=n->d.defers=[]->Inv i h G g w' lev' own' S' f (oY d.tmps)->K f->next d w'
def fG(P:Program)(n:Nat)(o:Oper)(e:Env)(K:Env->Prop):Prop:=
 ∀(g:World)(f:Nat->Option Nat)(G:Nat->Option (Nat×Nat))(d:Nat->Option Value)(w:World)(lev own:Nat->Option Nat)(S:Nat->Option Value)(a:Act)(next:Act->World->Prop)(Q:Exit->Act->World->Prop),
  Inv g f G d w lev own S e (oY a.tmps)->a.tmps.size=n->a.defers=[]->Cont n g f G d K next->o.wp P a w next Q
def fG.mono{n:Nat}{o:Oper}(r:∀e,K e->K' e)(h:fG P n o e K):fG P n o e K':=
 λu t G d w lev own S a next Q q s p m=>h u t G d w lev own S a next Q q s p λg lev' own' S' w' f i j k l=>m g lev' own' S' w' f i j k (r _ l)
def abD:Operand->Bool
 | .const (.slice none 0 0)=>true
 | _=>false
def ake:Nat:=999999
def hard(o:Oper):Bool:=
 match o.op with
 | .buildSlice t _ _=>t==ake
 | .call c=>(match c.callee with
  | .builtin .copy=>true
  | .builtin .clear=>true
  | .builtin .cap=>true
  | _=>false)
 | .binOp _ _ _ y _=>abD y
 | .slice _ _ lo _ mx=>mx.isSome&&lo.isSome
 | _=>false
def Ed(e:Env)(d:Nat)(K:Env->Prop)(S:Prop)(x y:D)(t t2:Ty):Prop:=
 match x,y with
 | .dZ _ _ _ _ _,_=>S
 | _,.int _ _=>S
 |x,y=>uE e d K x y t t2

def kW(P:Program)(n:Nat)(dr:Bool)(o:Oper)(e:Env)(g:Bool)(K:Env->Prop):Prop:=
 match o.op,o.dst with
 | .store t a x,none=>g=true/\Norm (rd e a) λa=>Norm (rd e x) (Yq P e t a K)
 | .box _ x,some d=>g=true/\d<n/\Norm (rd e x) (ad4 e d K)
 | .alloc t,some d=>g=true/\d<n/\Yk e d K (oI P t)
 | .buildSlice t len parts,some d=>d<n/\GK g ((dr=true->uJ e parts.toList=[])/\Vo (iY (uJ e parts.toList) e) len parts.toList d K (fD P t) (gr P t)) (K (cQ e d (.bD [])))
 | .makeSlice t l c,some d=>d<n/\GK g (MkK e d K (rd e l) (rd e c) (fD P t) (gr P t)) (K (cQ e d (.bD [])))
 | .call c,some d=>d<n/\(match c.callee with
  | .builtin .append=>g=true/\dr=false/\(match c.args.toList,c.argTypes.toList with
   | [x,y],[T,T2]=>Ed e d K (fG P n o e K) (rd e x) (rd e y) (fD P T) (fD P T2)
   | _,_=>False)
  | .builtin _=>jl g (fq P e o.op) (iA P e o.op) λu=>K (cQ e d u)
  | .value f=>GK g (Ee P dr e d f c.args.toList K\/(dr=false/\fG P n o e K)) (K (cQ e d (.bD [])))
  | .invoke _ _=>False)
 |op,some d=>d<n/\jl g (fq P e op) (iA P e op) λu=>K (cQ e d u)
 | _,none=>False

def nW(P:Program)(n:Nat)(dr:Bool)(o:Oper)(e:Env)(g:Bool)(K:Env->Prop):Prop:=if hard o then g=true/\dr=false/\fG P n o e K else kW P n dr o e g K

def Ab:List Oper->Nat->Option Tmp
 | [],_=>none
 |o::_,0=>o.dst
 | _::r,n+1=>Ab r n
def PD(w:Bool):D->Option Bool
 | .bool b=>some (b==w)
 | .bD []=>some false
 | _=>none
def vn(ops:List Oper)(e:Env):Option (Nat×Bool)->Option Bool
 |none=>some true
 |some (j,w)=>match Ab ops j with
  |some t=>PD w (rd e (.tmp t))
  |none=>some false
def wpOp(P:Program)(n:Nat)(ops:List Oper)(o:Oper)(e:Env)(K:Env->Prop):Prop:=
 match vn ops e o.guard with
 |some g=>nW P n false o e g K
 |none=>False
def wpList(P:Program)(n:Nat)(ops:List Oper):List Oper->Env->(Env->Prop)->Prop
 | [],e,K=>K e
 |o::r,e,K=>wpOp P n ops o e λd=>wpList P n ops r d K
end Go.Abs
namespace Go.Abs
open List

def CA{x:Int}(h1:-9223372036854775808<=x)(h2:x<9223372036854775808):IntKind.i64.wrap x=x:=by
 simp[IntKind.wrap,IntKind.signed,IntKind.bits];split<;>omega
theorem J0{zc:List D}{z:Nat}(k:zc.length=z)(j:z≠0):∀(n m:Nat),m<n*z->(replicate n zc).flatten[m]?=zc[m%z]?
 | 0,m,h=>by simp at h
 |n+1,m,h=>by
  rw[replicate_succ,flatten_cons];by_cases p:m<z
  ·rw[getElem?_append_left (by omega),Nat.mod_eq_of_lt p]
  ·rw[getElem?_append_right (by omega),k,J0 k j n (m-z) (by rw[Nat.succ_mul]at h;omega)];congr 1;rw[<-Nat.mod_eq_sub_mod (by omega)]
variable{zc:List D}{z:Nat}
def Bd(h:zc.length=z)(n:Nat):(replicate n zc).flatten.length=n*z:=by
 simp[length_flatten,h]

section
variable{P:Program}
theorem tq{e:TypeId}(h:oI P e=some zc)(w:World):∃k,(zeroValue e).run P w=.ok k w/\k.cells.size=zc.length/\∀(V:Cx)(i:Nat) v d,k.cells[i]?=some v->zc[i]?=some d->aO V v d:=by
 unfold oI at h;cases p:P.info? e with
 |none=>rw[p]at h;cases h
 |some inf =>
  simp only[p]at h;cases j:inf.zero with
  |none=>rw[j]at h;cases h
  |some k =>
   rw[j]at h;cases h;refine⟨k,by simp[zeroValue,Sem.run_bind,nA p,j,Sem.run,pure],by simp,?_⟩;intro V i v d q m;simp only[getElem?_map]at m;have:k.cells.toList[i]?=some v:=by simpa using q
   rw[this]at m;simp at m;subst m;exact wI v

end

variable{d:Nat}{o:Oper}{next:Act->World->Prop}{a:Act}{u v:Value}{Q:Exit->Act->World->Prop}{K:Env->Prop}{w':World}{e b:Env}{Φ:List D->D->Prop}{gs fz:List Nat}{f x:Operand}{dr bw:Bool}{c:Call}{i g:D}{t T:TypeId}{l:Array (Nat×Operand)}
section
variable{P:Program}{n:Nat}{w0 w w':World}{l0:Nat->Option Nat}{G:Nat->Option (Nat×Nat)}{S0:Nat->Option Value}{lev lev' own own':Nat->Option Nat}{S S':Nat->Option Value}{env env':Env}{tm tm':Nat->Value}{B:Nat}{gs:List Nat}{bw:Bool}

def upon_value(j:o.dst=some d)(hr:(execOp a.eval o).run P w=.ok (.value u) w')
  (h:next { a with tmps:=a.tmps.setIfInBounds d u } w'):o.wp P a w next Q:=by
 unfold Oper.wp;rw[hr];simp only[Oper.upon,j,Act.put];exact h
def gV(p:a.tmps.size=n)(j:a.defers=[])(h:Cont n w0 l0 G S0 K next)(hd:d<n)
  {lev' own':Nat->Option Nat} {S':Nat->Option Value} (m:Inv w0 l0 G S0 w' lev' own' S' e (Iy (oY a.tmps) d u)) (k:K e):next { a with tmps:=a.tmps.setIfInBounds d u } w':=
 h e lev' own' S' w' _ (by simpa using p) j (by rw[ado (by omega)];exact m) k

def Sm(h:Inv w0 l0 G S0 w lev own S env (oY a.tmps))(hn:a.tmps.size=n)(hdf:a.defers=[])(hcal:c.callee=.value f)(hd:d<n)(hop:o.op=.call c)(hdst:o.dst=some d)
  (hnext:Cont n w0 l0 G S0 K next) (hk:Ja P (iY fz env) d c.args.toList gs bw Φ (KW dr K) (rd (iY fz env) f)):o.wp P a w next Q:=by
 obtain⟨lev1,S1,h1⟩:=Inv.abv fz h (λ_ _=>trivial);generalize iY fz env=env1 at h1 hk;unfold Ja at hk;have hof:=h1.yR a rfl f;split at hk<;>try exact hk.elim
 rename_i k caps hf;rw[hf]at hof;obtain⟨hnd,hlive,⟨hent,hsp⟩,hall⟩:=hk;obtain⟨cv,hv,hcs,hcc⟩:=hof.Du;obtain⟨fn,e1,e2,e3⟩:=hent
 let vs:Array Value:=c.args.map a.eval++cv
 have hr:(execOp a.eval o).run P w=.ok (.enter k vs) w:=by
  have e3' : fn.name ≠ "runtime.NumGoroutine" := by simpa using e3
  have e2':fn.body≠none:=by rintro e;rw[e]at e2;cases e2
  simp[execOp,hop,resolve,hcal,hv,Deferred.ofValue,Sem.run_bind,invoke,callFunc,program,e1,e3',e2',Sem.run,pure,vs]
 have hrep:∀(i:Nat) v x,vs[i]?=some v->(c.args.toList.map (rd env1)++caps)[i]?=some x->aO (cx w lev1 S1) v x:=by
  intro i v x hi hx;have hl:(c.args.map a.eval).size=(c.args.toList.map (rd env1)).length:=by simp
  by_cases hlt:i<(c.args.map a.eval).size
  ·simp only[vs]at hi;rw[Array.getElem?_append_left hlt]at hi;rw[getElem?_append_left (by rw[<-hl];exact hlt)]at hx;simp only[Array.getElem?_map,getElem?_map]at hi hx;have hx':c.args[i]?=c.args.toList[i]?:=by simp
   rw[hx']at hi;cases hy:c.args.toList[i]? with
   |none=>rw[hy]at hi;cases hi
   |some y =>
    rw[hy]at hi hx;cases hi;cases hx;exact h1.yR a rfl y
  ·simp only[vs]at hi;rw[Array.getElem?_append_right (by omega)]at hi;rw[getElem?_append_right (by rw[<-hl];omega)]at hx;rw[<-hl]at hx;exact hcc _ v x hi hx
 have hsz:vs.size=((c.args.toList.map (rd env1)++caps).map (conv bw gs env1.o 4)).length:=by simp[vs,hcs]
 have hc:=hsp w (xk bw gs lev1 own) (uF gs S1 env1.o) (QV gs own) (Ef gs S1) vs
  (by
   intro t ht;obtain⟨t1,E,x,c9,t2,t3⟩:=h1.os.2 t ht;have hlt:=lt_of_block t2;refine⟨?_,E,x,c9,(h1.old _ hlt t1).trans t2,t3⟩;cases hg:uF gs S1 env1.o t.1 with
   |none=>rfl
   |some p =>
    obtain⟨lo,hi⟩:=p;obtain⟨r,hr,u,hu,hbk⟩:=IA hg;obtain⟨_,_,hin,_⟩:=(h1.objs r).blk hu hbk;rcases hin with hin| ⟨_,_,hin,_⟩
    ·omega
    ·rw[t1]at hin;cases hin)
  (by
   intro b m hb;rcases XA (bw:=bw) (gs:=gs) (lev:=lev1) (own:=own) b with e|e
   ·rw[e]at hb;exact h1.priv b m hb
   ·rw[e]at hb;cases hb)
  (by
   intro b lo hi hg;obtain⟨r,hr,u,hu,hbk⟩:=IA hg;obtain⟨_,_,_,cc,E,hb⟩:=(h1.objs r).blk hu hbk
   exact⟨cc,cc,E,hb,hb,rfl,λ_ _=>rfl⟩)
  hsz
  (by
   intro i v x hi hx;simp only[getElem?_map]at hx;cases hy:(c.args.toList.map (rd env1)++caps)[i]? with
   |none=>rw[hy]at hx;cases hx
   |some y=>rw[hy]at hx;cases hx;exact JK h1 4 y v (hrep i v y hi hy))
  (by
   intro r;by_cases hlt:r<gs.length
   ·have hg:gs[r]?=some gs[r]:=gF hlt;have:(gs.map λr=>AV bw gs env1.o 4 (env1.o r)).getD r .undef=AV bw gs env1.o 4 (env1.o gs[r]):=by simp[getD,hg]
    rw[this];exact abd h1 hnd hg 4 (hlive _ (dH hlt))
   ·have:(gs.map λr=>AV bw gs env1.o 4 (env1.o r)).getD r .undef=.undef:=by simp[getD,hlt]
    rw[this];show Ef gs S1 r=none
    simp[Ef,hlt])
 unfold Oper.wp;rw[hr];simp only[Oper.upon];refine hc.mono ?_;rintro e w' ⟨v,hs',dv,hΦ,rfl,hout⟩;obtain⟨hfresh,hlen,hperm,hK⟩:=hall hs' dv hΦ;simp only[length_map]at hout;obtain⟨lev',own',S',hi⟩:=h1.call (d:=d) hnd hlive hfresh hlen.1 hperm hout;simp only[hdst,Act.put];rcases hK with hK| ⟨_,ts,os,hl,hK⟩
 ·exact gV hn hdf hnext hd hi hK
 ·obtain⟨rh,hle⟩:=hl.le;obtain⟨own2,S2,hi2⟩:=hi.le hle;exact gV hn hdf hnext hd hi2 hK

def qT.toE{args:List Operand}(h:qT P e d args gs bw zc g K i):Ja P e d args gs bw (λa b=>a=zc/\b=g) K i:=by
 unfold qT at h;unfold Ja;split at h<;>try exact h.elim
 obtain⟨r,s,y,A,C,k,D⟩:=h;refine⟨r,s,⟨k.1,?_⟩,?_⟩
 ·intro w l0 m j S0 vs p a2 a3 a4 a5 q;refine(k.2 w l0 m j S0 vs p a2 a3 a4 a5 q).mono ?_;rintro e w' ⟨v,he,ho⟩;exact⟨v,zc,g,⟨rfl,rfl⟩,he,ho⟩
 ·rintro _ _ ⟨rfl,rfl⟩;exact⟨y,A,C,D⟩
def Vz(h:Inv w0 l0 G S0 w lev own S env (oY a.tmps))(y:a.tmps.size=n)(p:a.defers=[])(k:c.callee=.value f)(s:d<n)(r:o.op=.call c)(m:o.dst=some d)
  (j:Cont n w0 l0 G S0 K next) (q:Ee P dr env d f c.args.toList K):o.wp P a w next Q:=by
 obtain⟨fz,gs,bw,hs',dv,_,q⟩:=q;exact Sm h y p k s r m j q.toE
def adh(h:Inv w0 l0 G S0 w lev own S env (oY a.tmps))(J:a.tmps.size=n)(s:a.defers=[])
  (m:Cont n w0 l0 G S0 K next) (j:Yq P env t (rd env f) K (rd env x)):∃w',(Instr.storeAt t (a.eval f) (a.eval x)).run P w=.ok () w'/\next a w':=by
 have A:=h.yR a rfl x;have q:=h.yR a rfl f;unfold Yq at j;cases I:rd env f<;>rw[I]at j q<;>try exact j.elim
 ·rename_i r off;simp only at j;unfold StB at j;cases y:env.o r<;>rw[y]at j<;>try exact j.elim
  rename_i cs;simp only at j;cases p:jx P t with
  |none=>rw[p]at j;exact j.elim
  |some l =>
   rw[p]at j;obtain⟨C,D,E,F⟩:=j;obtain⟨w',hr,H⟩:=h.adi y p A E D C q;exact⟨w',hr,m _ _ _ _ _ a J s H F⟩
 ·rename_i r z i k;simp only at j;unfold StO at j;cases y:env.o r<;>rw[y]at j<;>try exact j.elim
  rename_i z' rows;simp only at j;cases p:jx P t with
  |none=>rw[p]at j;exact j.elim
  |some l =>
   rw[p]at j;obtain⟨rfl,C,D,E,L,F⟩:=j;obtain⟨w',hr,H⟩:=h.adj y p A L E C D q;exact⟨w',hr,m _ _ _ _ _ a J s H F⟩

def boxed(h:Inv w0 l0 G S0 w lev own S env tm){vs:Array Value}{cs:List D}(T:TypeId)(m:vs.size=cs.length)(k:∀(j:Nat) u e,vs[j]?=some u->cs[j]?=some e->aO (cx w lev S) u e)(p:env.o (nm d 0)=.undef) :
  ∃lev' own' S',Inv w0 l0 G S0 (w.alloc (.cells vs T)) lev' own' S' (cQ (eV env (nm d 0) (.box cs)) d (.addr (nm d 0) 0)) (Iy tm d (.pointer (some ⟨w.heap.size,0,none⟩))):=by
 have q:=h.ajT (C0 d 0) p T m k;refine⟨_,_,_,q.put ?_⟩;have:=aO.addr (C:=cx (w.alloc (.cells vs T)) (lP lev w.heap.size (some 0)) (lP S (nm d 0) (some (.pointer (some ⟨w.heap.size,0,none⟩))))) (nm d 0) 0 ⟨w.heap.size,0,none⟩ (fc _ _ _);simpa[Addr.add]using this
def owned{x:D}(j:Inv w0 l0 G S0 w' lev' own' S' (eV e (nm d 0) x) tm)(h:S' (nm d 0)=some v)(k:∃a l c,v=.slice a l c):Inv w0 l0 G S0 w' lev' own' S' (cQ (eV e (nm d 0) x) d (.ref (nm d 0))) (Iy tm d v):=by
 obtain⟨a,l,c,rfl⟩:=k;exact j.put (.ref (nm d 0) a l c h)

def YA(h:Inv w0 l0 G S0 w lev own S env (oY a.tmps))(A:a.tmps.size=n)(k:a.defers=[])(m:d<n)
  (j:Cont n w0 l0 G S0 K next) (y:ad4 env d K (rd env x)) :
  next { a with tmps:=a.tmps.setIfInBounds d (.pointer (some ⟨w.heap.size,0,none⟩)) } (w.alloc (.cells (a.eval x).cells T)):=by
 obtain⟨p,q,r⟩:=y;obtain⟨c1,c2,c3⟩:=wJ (h.yR a rfl x) p;obtain⟨_,_,_,s⟩:=boxed h T c1 c3 q;exact gV A k j m s r

def mP(h:Inv w0 l0 G S0 w lev own S env tm)(J:aO (cx w lev S) v g){rows:List (List D)}(hr:mM z (qS env.o [] 2 g)=some rows)(S':Nat->Option Value):qM w (cx w lev S') v z rows:=by
 have E:=P5 (gs:=[]) h (λ_=>none) 2 g v J;unfold mM at hr;split at hr<;>try(cases hr;done)
 ·rename_i z' rows' e;rw[e]at E;split at hr<;>try(cases hr;done)
  rename_i ez;cases hr;subst ez;have h1:=qM.apn (w:=w) (λa v=>uc) E;obtain⟨a,cap,rfl,q1,q2,q3,q4,q5⟩:=h1
  -- the cells are read in the caller's own terms
  refine⟨a,cap,rfl,q1,q2,q3,q4,?_⟩;clear E q5;have key:∀g:D,aO (cx w lev S) (.slice a rows.length cap) g->qS env.o [] 2 g=.sl z' rows->∀N,a=some N->∀(i j:Nat) q x,rows[i]?=some q->q[j]?=some x->∃u,w.cell? (N.add (i*z'+j))=some u/\aO (cx w lev S') u x:=by
   intro g J e N M i j q x A H;have s:=q3 q (fC A) x (fC H);cases g with
   |sl z2 rows2 =>
    simp only[qS]at e;cases e;obtain⟨a',y,O,_,_,_,_,R⟩:=J.DW;cases O;obtain⟨u,I,p⟩:=R N M i j q x A H;exact⟨u,uc I,p.iL (.refl _ _) (by rw[s.2];simp)⟩
   |ref r =>
    simp only[qS,eg,contains_nil,Bool.false_eq_true,if_false]at e;cases C:env.o r<;>rw[C]at e<;>simp only[vZ]at e<;>try(cases e;done)
    cases e;obtain⟨a',y,Z,_,_,_,_,R⟩:=h.EW C;obtain⟨m,_⟩:=J.rI;simp only[cx]at m;rw[Z]at m;cases m;obtain⟨u,I,p⟩:=R N M i j q x A H;exact⟨u,I,p.iL (.refl _ _) (by rw[s.2];simp)⟩
   |gl r z lo len =>
    simp only[qS,eg,contains_nil,Bool.false_eq_true,if_false]at e;cases C:env.o r<;>rw[C]at e<;>simp only[qo]at e<;>try(cases e;done)
    split at e<;>try(cases e;done)
    rename_i hz;obtain⟨rfl,hlen⟩:=hz;cases e;obtain⟨a',y,Z,_,_,_,_,R⟩:=h.EW C;obtain⟨b0,W,L,c0,c1,m,O,Y,_⟩:=J.pS;simp only[cx]at m;rw[Z]at m;cases m;have U:i<len:=by have:=(ia.1 A).1;simp at this;omega
    obtain⟨b,rfl,F⟩:=Y (by omega);have X:a=W:=by injection O
    rw[X,F]at M;cases M;rw[getElem?_take_of_lt U,getElem?_drop]at A;obtain⟨u,I,p⟩:=R b rfl (lo+i) j q x A H;refine⟨u,?_,p.iL (.refl _ _) (by rw[s.2];simp)⟩;rw[add_add,<-I];congr 2;rw[Nat.add_mul];omega
   |dZ r off z len bcap =>
    simp only[qS,eg,contains_nil,Bool.false_eq_true,if_false]at e;cases C:env.o r<;>rw[C]at e<;>simp only[ni]at e<;>try(cases e;done)
    split at e<;>try(cases e;done)
    cases e;obtain⟨b0,W,c1,m,O,Y,_⟩:=J.jm;have aa:=h.NR C m;have U:i<len:=by have:=(ia.1 A).1;rw[ku]at this;exact this
    have F:=Y (by omega);have X:a=W:=by injection O
    rw[X,F]at M;cases M;have V:=sY _ _ _ _ _ A;subst V;have ab:j<z':=by have:=(ia.1 H).1;simp at this;omega
    rw[getElem?_take_of_lt ab,getElem?_drop,getElem?_drop]at H;obtain⟨u,I,p⟩:=aa _ x H;refine⟨u,?_,p.iL (.refl _ _) (by rw[s.2];simp)⟩;rw[add_add];exact I
   |addr r off=>simp only[qS,eg,contains_nil,Bool.false_eq_true,if_false]at e;unfold qn at e;split at e<;>cases e
   |dO r z i' k=>simp only[qS,eg,contains_nil,Bool.false_eq_true,if_false]at e;unfold xR at e;(split at e<;>try split at e)<;>cases e
   | _=>simp only[qS]at e<;>cases e
  exact key g J e
 ·rename_i e;rw[e]at E;cases hr;cases E;exact qM.nil z none
 ·rename_i e;rw[e]at E;cases hr;cases E;exact qM.nil z _

def Yt(h:Inv w0 l0 G S0 w lev own S env (oY a.tmps))(Z:a.tmps.size=n)(H:a.defers=[]){T3:TypeId}(Y:d<n)
  (m:Cont n w0 l0 G S0 K next) (j:uE env d K (rd env x) (rd env f) (fD P T) (fD P t)) :
  ∃u w',(Builtin.append_ #[T,t] T3 #[a.eval x,a.eval f]).run P w=.ok u w'/\next { a with tmps:=a.tmps.setIfInBounds d u } w':=by
 have k:=h.yR a rfl x;have s:=h.yR a rfl f;unfold uE at j;cases O:fD P T<;>rw[O]at j<;>try exact j.elim
 cases F:fD P t<;>rw[F]at j<;>try exact j.elim
 rename_i z E ea z2 by2 ea2;obtain⟨U,j⟩:=j;have I:∃e,P.underlying t=some (.slice e):=by
  obtain⟨e,_,hu,_⟩:=fy F;exact⟨e,hu⟩
 have q:∀(C:Option Addr)(rows2:List (List D)),a.eval x=.slice C 0 0->qM w (cx w lev S) (a.eval f) z rows2->(E+(1-E))*rows2.length<=2^47->env.o (nm d 0)=.undef->K (cQ (eV env (nm d 0) (.own z rows2)) d (.ref (nm d 0))) ->
   ∃u w',(Builtin.append_ #[T,t] T3 #[a.eval x,a.eval f]).run P w=.ok u w'/\next { a with tmps:=a.tmps.setIfInBounds d u } w':=by
  intro C rows2 y A R V J;obtain⟨v,w',_,_,_,hr,W,L,X⟩:=h.Xd (N:=nm d 0) (C0 d 0) V O I (a:=C) A R T3;rw[y];exact⟨v,w',hr,gV Z H m Y (owned W L X) J⟩
 unfold AD at j;split at j
 ·rename_i rows2 y A;rw[y]at k;have p:a.eval x=.slice none 0 0:=by generalize a.eval x=v at k;cases k;rfl
  exact q _ _ p (mP h s A S) j.1 j.2.1 j.2.2
 ·rename_i rows2 y A;rw[y]at k;have p:∃C,a.eval x=.slice C 0 0:=by generalize a.eval x=v at k;cases k;exact⟨_,rfl⟩
  obtain⟨C,p⟩:=p;exact q _ _ p (mP h s A S) j.1 j.2.1 j.2.2
 ·rename_i r rows2 y A;rw[y]at k;obtain⟨L,_⟩:=k.rI;unfold Yl at j;cases ho:env.o r<;>rw[ho]at j<;>try exact j.elim
  rename_i z' rows;obtain⟨rfl,R,V,J⟩:=j;obtain⟨v,w',_,_,_,hr,W,M,X⟩:=h.aeg (N:=nm d 0) ho (C0 d 0) V O I L (mP h s A S) R U T3;exact⟨v,w',hr,gV Z H m Y (owned W M X) J⟩
 ·exact j.elim

def aa9(h:Inv w0 l0 G S0 w lev own S b (oY a.tmps))(hn:a.tmps.size=n)(ad:a.defers=[]){len:Nat}(hd:d<n)
  (M:Cont n w0 l0 G S0 K next) (hk:Vo b len l.toList d K (fD P t) (gr P t)) :
  ∃u w',(Instr.buildSlice t len (l.map λx=>(x.1,a.eval x.2))).run P w=.ok u w'/\next { a with tmps:=a.tmps.setIfInBounds d u } w':=by
 unfold Vo at hk;split at hk<;>try exact hk.elim
 rename_i z by_ ea zc hT aa;obtain⟨h24,s,A,I,hf,hK⟩:=hk;obtain⟨e,inf,hu,hl,hin,hb,hz,zv0,hzv0,hzz0⟩:=fy hT;have ah:gr P t=oI P e:=by simp[gr,hu]
 have ag:oI P e=some zc:=by rw[<-ah];exact aa
 obtain⟨U,ai,ab,O⟩:=tq ag w;have H:=Bd s len
 let zs:Array Value:=(Array.range (len*z)).map (λi=>U.cells[i%U.cells.size]!)
 have E:zs.size=len*z:=by simp[zs]
 unfold El at I hK;obtain⟨m,e1,e2,e3⟩:=LM (V:=cx w lev S) (λi=>some (i*z,z)) (l.map λx=>(x.1,a.eval x.2)).toList (nO b z l.toList) zs (replicate len zc).flatten (by simp[nO]) (by rw[E,H])
  (by
   intro i v x hv hx;have y:i<len*z:=by rw[<-E];exact(Array.getElem?_eq_some_iff.1 hv).1
   rw[J0 s hz len i y]at hx;have C:i%z<U.cells.size:=by rw[ab,s];exact Nat.mod_lt _ (Nat.pos_of_ne_zero hz)
   have af:v=U.cells[i%z]:=by
    simp only[zs,Array.getElem?_map]at hv;rw[Array.getElem?_eq_getElem (by simpa using y)]at hv;simp only[Option.map_some,qN,Array.getElem_range]at hv;rw[<-hv,ab,s];simp[C]
   refine O (cx w lev S) (i%z) v x ?_ hx
   rw[af];simp[C])
  (by
   intro k p q hp hq;simp only[Array.toList_map,getElem?_map]at hp;cases N:l.toList[k]? with
   |none=>rw[N]at hp;cases hp
   |some p0 =>
    rw[N]at hp;cases hp;simp only[nO,getElem?_map,N,Option.map_some,qN]at hq;subst hq
    exact⟨rfl,h.yR a rfl p0.2⟩) (by rw[H];exact A)
 have J:(pR (replicate len zc).flatten (nO b z l.toList)).length=len*z:=by
  have key:∀(qs:List (Nat×Nat×D))(ds:List D),sK ds.length qs->(pR ds qs).length=ds.length:=by
   intro qs;induction qs with
   |nil=>intro ds _;rfl
   |cons q qs ih =>
    intro ds hq;obtain⟨off,sz,x⟩:=q;obtain⟨g1,g2,g3,g4⟩:=hq;have hw:=lI (cs:=ds) (xs:=x.cells) (o:=off) (by omega);rw[pR,ih _ (by rw[hw];exact g4),hw]
  rw[key _ _ (by rw[H];exact A),H]
 have X:∀i j r c,(rowsOf z len (pR (replicate len zc).flatten (nO b z l.toList)))[i]?=some r->r[j]?=some c ->
   (pR (replicate len zc).flatten (nO b z l.toList))[i*z+j]?=some c/\j<z:=by
  intro i j r c y R;rw[sY _ _ _ _ _ y]at R;have Y:j<z:=by
   have:=(ia.1 R).1;simp at this;omega
  rw[getElem?_take_of_lt Y,getElem?_drop]at R;exact⟨R,Y⟩
 have y:=h.GC (C0 d 0) hf (vs:=m) (z:=z) (cap:=len) (rows:=rowsOf z len (pR (replicate len zc).flatten (nO b z l.toList))) e (by rw[e2,J]) (by rw[ku];exact fO _)
  (by
   intro r hr;obtain⟨i,y⟩:=mem_iff_getElem?.1 hr;have ae:i<len:=by
    have:=(ia.1 y).1;rwa[ku]at this
   rw[sY _ _ _ _ _ y,gh,iC,J];have:(i+1)*z<=len*z:=pH z ae;rw[Nat.succ_mul]at this
   omega)
  (by
   intro r hr c W;obtain⟨i,y⟩:=mem_iff_getElem?.1 hr;rw[sY _ _ _ _ _ y]at W
   exact I c (mem_of_mem_drop (mem_of_mem_take W)))
  (by
   intro i j r c y R;obtain⟨W,_⟩:=X i j r c y R;have C:i*z+j<m.size:=by rw[e2];exact(ia.1 W).1
   exact⟨m[i*z+j],by simp[C],e3 _ _ c (by simp[C]) W⟩)
 refine⟨_,_,?_,gV hn ad M hd (owned y (fc _ _ _) ⟨_,_,_,rfl⟩) hK⟩;rw[ku];have Z:¬len*z>2^24:=by omega
 have L:(newRow e m).run P w=.ok ⟨w.heap.size,0,none⟩ (w.alloc (.cells m e)):=by simp[newRow,newObj,Sem.run,Sem.bind,pure,bind]
 simp only[Instr.buildSlice,Sem.run_bind,bQ hu,dJ hl,Result.andThen_ok,aq Z];by_cases h0:len*z=0
 ·have ac:zs = #[]:=Array.eq_empty_of_size_eq_zero (by rw[E,h0]);have F:Instr.fill (λi=>some (i*z,z)) ((Array.range (len*z)).map (λi=>(#[]:Array Value)[i%(#[]:Array Value).size]!)) (l.map λx=>(x.1,a.eval x.2)).toList=some m:=by
   rw[<-e1,ac,h0,show(Array.range 0:Array Nat) = #[]from rfl];simp
  simp[h0]at F |-;simp[Sem.run_bind,F,L,Sem.run,pure]
 ·have F:Instr.fill (λi=>some (i*z,z)) ((Array.range (len*z)).map (λi=>U.cells[i%U.cells.size]!)) (l.map λx=>(x.1,a.eval x.2)).toList=some m:=e1;rw[aq h0];simp only[Sem.run_bind,ai,Result.andThen_ok,pure,Sem.run];rw[F];simp[Sem.run_bind,L,Sem.run,pure]

def ab'(h:Inv w0 l0 G S0 w lev own S env (oY a.tmps))(hn:a.tmps.size=n)(ag:a.defers=[]){l c:Operand}(hd:d<n)
  (D:Cont n w0 l0 G S0 K next) (hk:MkK env d K (rd env l) (rd env c) (fD P t) (gr P t)) :
  ∃u w',(Instr.makeSlice t (a.eval l) (a.eval c)).run P w=.ok u w'/\next { a with tmps:=a.tmps.setIfInBounds d u } w':=by
 have Z:=h.yR a rfl l;have Y:=h.yR a rfl c;unfold MkK at hk;split at hk<;>try exact hk.elim
 rename_i z ad ea k1 len k2 k zc hT ak af aa;rw[ak]at Z;rw[af]at Y;obtain⟨h0,hlc,h40,ae,p,ab,hf,hK⟩:=hk;obtain⟨e,ar,hu,hl,ai,hb,hz,zv0,hzv0,hzz0⟩:=fy hT;have ao:gr P t=oI P e:=by simp[gr,hu]
 have an:oI P e=some zc:=by rw[<-ao];exact aa
 obtain⟨I,ap,ac,H⟩:=tq an w;have V:=Z.fk;have N:=Y.fk;obtain⟨len,rfl⟩:=Int.eq_ofNat_of_zero_le h0;obtain⟨k,rfl⟩:=Int.eq_ofNat_of_zero_le (show 0<=k by omega);have q:len<=k:=by omega
 simp only[Int.toNat_natCast]at hK
 let cells:Array Value:=(Array.range (k*z)).map (λi=>I.cells[i%I.cells.size]!)
 have M:cells.size=k*z:=by simp[cells]
 have hi:=h.GC (C0 d 0) hf (vs:=cells) (z:=z) (cap:=k) (rows:=replicate len zc) e M (by simpa using q) (by intro r hr;rw[(mem_replicate.1 hr).2];exact p)
  (by intro r hr;rw[(mem_replicate.1 hr).2];exact ab) (by
   intro i j r x hi hj;have ah:i<len:=by
    have:=(ia.1 hi).1;simpa using this
   have hr:r=zc:=(mem_replicate.1 (fC hi)).2;subst hr;have y:j<z:=by rw[<-p];exact(ia.1 hj).1
   have aj:i*z+j<len*z:=um y ah;have U:i*z+j<k*z:=Nat.lt_of_lt_of_le aj (pH z q);have W:(i*z+j)%z=j:=by rw[Nat.add_comm,Nat.add_mul_mod_self_right,Nat.mod_eq_of_lt y]
   have O:j<I.cells.size:=by rw[ac,p];exact y
   refine⟨I.cells[j],?_,H _ j _ x (by simp[O]) hj⟩;simp only[cells,Array.getElem?_map];rw[Array.getElem?_eq_getElem (by simpa using U)];have C:(i*z+j)%I.cells.size=j:=by rw[ac,p];exact W
   simp only[Option.map_some,Array.getElem_range,C]
   rw[getElem!_pos I.cells j O])
 refine⟨_,_,?_,gV hn ag D hd (owned hi (fc _ _ _) ⟨_,_,_,rfl⟩) hK⟩;rw[length_replicate];have s:(newRow e cells).run P w=.ok ⟨w.heap.size,0,none⟩ (w.alloc (.cells cells e)):=by simp[newRow,newObj,Sem.run,Sem.bind,pure,bind]
 have al:IntKind.i64.wrap (len:Int)=len:=CA (by omega) (by omega);have am:IntKind.i64.wrap (k:Int)=k:=CA (by omega) (by omega);have J:∀m,(askRoom m).run P w=.ok () w:=by
  intro m;unfold askRoom;split<;>simp[mark,Sem.run,pure]
 have L:(ar.bytes:Int)*(k:Int)<=281474976710656:=by
  rw[hb];have:(ad:Int)*(k:Int)<=2^47:=ae;omega
 have X:¬((k:Int)<0):=by omega
 have A:¬((len:Int)<0):=by omega
 have R:¬((len:Int)>(k:Int)):=by omega
 rw[V,N];simp only[Instr.makeSlice,Sem.run_bind,bQ hu,asInt,asIntOf,pure,Sem.run,Result.andThen_ok,nA ai,al,am];rw[aq (by simp[X,L,A,R])];simp only[Sem.run_bind,J,Result.andThen_ok,dJ hl,Int.toNat_natCast];by_cases F:k*z=0
 ·have:cells = #[]:=Array.eq_empty_of_size_eq_zero (by rw[M,F]);simp only[F,if_true,Sem.run,Result.andThen_ok,Sem.run_bind];have E:(newRow e #[]).run P w=.ok ⟨w.heap.size,0,none⟩ (w.alloc (.cells cells e)):=by rw[<-this];exact s
  rw[show(Array.range 0:Array Nat) = #[]from rfl];simp[E]
 ·simp only[aq F,Sem.run_bind,ap,Result.andThen_ok,Sem.run];rw[s];simp[Sem.run]

theorem Wa(h:Inv w0 l0 G S0 w lev own S env (oY a.tmps))(E:a.tmps.size=n)(r:a.defers=[])
  (m:Cont n w0 l0 G S0 K next) (k:kW P n dr o env true K):o.wp P a w next Q:=by
 have s:∀d,o.dst=some d->d<n->jl true (fq P env o.op) (iA P env o.op) (λu=>K (cQ env d u))->o.wp P a w next Q:=by
  intro d C p ⟨hok,J⟩;obtain⟨u,hr,L⟩:=pure_run h o (hok rfl);exact upon_value C hr (gV E r m p (h.put L) J)
 cases C:o.dst with
 |none =>
  cases q:o.op<;>simp only[kW,q,C]at k<;>try exact k.elim
  obtain⟨_,k⟩:=k;obtain⟨w',hr,A⟩:=adh h E r m k;unfold Oper.wp;have:(execOp a.eval o).run P w=.ok .skip w':=by
   simp only[execOp,q,Sem.run_bind,hr];rfl
  rw[this];simp only[Oper.upon,C,Act.put];exact A
 |some d =>
  cases q:o.op<;>simp only[kW,q,C]at k
  case box T x =>
   obtain⟨_,p,k⟩:=k;have:=YA (T:=T) h E r p m k;refine upon_value C (u:=.pointer (some ⟨w.heap.size,0,none⟩)) ?_ this;simp only[execOp,q];exact mN (by simp[Instr.box,newVar,newRow,newObj,Sem.run,Sem.bind,pure,bind])
  case alloc T =>
   obtain⟨_,p,k⟩:=k;cases M:oI P T with
   |none=>rw[M]at k;exact k.elim
   |some zc =>
    rw[M]at k;obtain⟨X,J⟩:=k;obtain⟨zv,N,O,H⟩:=tq M w;obtain⟨_,_,_,Y⟩:=boxed (d:=d) h T O (λj u e L W=>H _ j u e L W) X;refine upon_value C (u:=.pointer (some ⟨w.heap.size,0,none⟩)) ?_ (gV E r m p Y J);simp only[execOp,q];refine mN ?_;simp only[Instr.alloc,Sem.run_bind,N,Result.andThen_ok];simp[newVar,newRow,newObj,Sem.run,Sem.bind,pure,bind]
  case buildSlice t len parts =>
   obtain⟨p,k⟩:=k;obtain⟨lev1,S1,V⟩:=Inv.abv (uJ env parts.toList) h (λ_ _=>trivial);obtain⟨u,w',hr,A⟩:=aa9 V E r p m (k.1 rfl).2;exact upon_value C (by simp only[execOp,q];exact mN hr) A
  case makeSlice t l c =>
   obtain⟨p,k⟩:=k;obtain⟨u,w',hr,A⟩:=ab' h E r p m (k.1 rfl);exact upon_value C (by simp only[execOp,q];exact mN hr) A
  case call c =>
   obtain⟨p,k⟩:=k;split at k
   ·-- append
    rename_i D;obtain⟨_,_,k⟩:=k;split at k
    ·rename_i x y T R F I;have U:c.args = #[x,y]:=Array.ext' (by simpa using F);have e2:c.argTypes = #[T,R]:=Array.ext' (by simpa using I);have k:fG P n o env K\/uE env d K (rd env x) (rd env y) (fD P T) (fD P R):=by
      unfold Ed at k;split at k
      ·exact .inl k
      ·exact .inl k
      ·exact .inr k
     rcases k with k|k
     ·exact k _ _ _ _ _ _ _ _ _ _ _ h E r m
     obtain⟨u,w',hr,A⟩:=Yt (T3:=o.type) h E r p m k;refine upon_value C ?_ A;have Z:c.args.map a.eval = #[a.eval x,a.eval y]:=by rw[U];simp
     simp only[execOp,q,resolve,D,Sem.run_bind,pure,Sem.run,Result.andThen_ok,invoke,builtin,Z,e2,hr]
    ·exact k.elim
   ·exact s d C p (by rw[q];exact k)
   ·rename_i f D;rcases k.1 rfl with k| ⟨_,k⟩
    ·exact Vz h E r D p q C m k
    ·exact k _ _ _ _ _ _ _ _ _ _ _ h E r m
   ·exact k.elim
  all_goals exact s d C k.1 (by rw[q];exact k.2)

theorem Zy(h:Inv w0 l0 G S0 w lev own S env (oY a.tmps))(A:a.tmps.size=n)(s:a.defers=[])
  (p:Cont n w0 l0 G S0 K next) (j:kW P n dr o env false K):next (a.put o.dst Go.undef) w:=by
 have r:∀d,o.dst=some d->d<n->K (cQ env d (.bD []))->next (a.put o.dst Go.undef) w:=by
  intro d k m y;rw[k];exact gV A s p m (h.put (v:=Go.undef) (d:=.bD []) (.bD #[] [] rfl (by intro i v d C;simp at C))) y
 cases k:o.dst with
 |none =>
  cases q:o.op<;>simp only[kW,q,k]at j<;>first|exact j.elim|exact(sD j.1).elim
 |some d =>
  rw[<-k];cases q:o.op<;>simp only[kW,q,k]at j<;>try(first|exact(sD j.1).elim|exact r d k j.1 j.2.2|exact r d k j.1 (j.2.2 rfl))
  case call c =>
   obtain⟨m,j⟩:=j;split at j
   ·exact(sD j.1).elim
   ·exact r d k m j.2
   ·exact r d k m (j.2 rfl)
   ·exact j.elim
def Zz(h:Inv w0 l0 G S0 w lev own S env (oY a.tmps))(p:a.tmps.size=n)(k:a.defers=[])
  (j:Cont n w0 l0 G S0 K next) (m:nW P n dr o env true K):o.wp P a w next Q:=by
 unfold nW at m;split at m
 ·exact m.2.2 _ _ _ _ _ _ _ _ _ _ _ h p k j
 ·exact Wa h p k j m
def acu(h:Inv w0 l0 G S0 w lev own S env (oY a.tmps))(p:a.tmps.size=n)(m:a.defers=[])
  (j:Cont n w0 l0 G S0 K next) (k:nW P n dr o env false K):next (a.put o.dst Go.undef) w:=by
 unfold nW at k;split at k
 ·exact(sD k.1).elim
 ·exact Zy h p m j k
end
end Go.Abs
