/- The evaluator, part 1; no theorem of a claim. -/
import Derived.Below
import Derived.Laws.Cells
import Derived.Laws.Rows
import Derived.Laws.Entries
import Derived.Laws.Sem
import Derived.ChangeKeysEq
set_option linter.all false
namespace Go.Abs
open List
abbrev aq := @if_pos
abbrev au := @if_neg
abbrev bz := @decide_eq_true_eq
abbrev gv := @decide_eq_false_iff_not
abbrev gU := @List.getElem?_eq_some_iff
abbrev jU := @take_succ_eq_append_getElem
abbrev tj := @Nat.mul_le_mul_right
abbrev dz := @append_assoc
abbrev cR := @length_append
abbrev dS := @getElem_mem
abbrev fj := @getElem?_eq_getElem
abbrev cm := @Bool.true_and
abbrev cZ := @Bool.false_and
abbrev fO := @mem_of_getElem?
abbrev dN := @Nat.lt_or_ge
abbrev fS := @Nat.le_refl
abbrev bL := @all_eq_true
abbrev dY := @decide_eq_true
abbrev iA := @decide_eq_false
abbrev eu := @take_length
abbrev fZ := @length_take
abbrev iN := @length_drop
abbrev jw := @drop_length
abbrev wG := @Bool.false_ne_true
abbrev gD := @Bool.not_eq_true'
abbrev mj := @take_append_drop
abbrev kB := @pairwise_cons
abbrev Gg := @pairwise_iff_getElem
abbrev oF := @Option.some.injEq
abbrev gV := @mem_singleton
abbrev ff := @beq_iff_eq
abbrev nJ := @Bool.eq_iff_iff
abbrev jF := @map_append
abbrev nK := @filter_append
def aS:True:=True.intro
def ak{p:Prop}(h:p:=by omega):p:=h
open Go.RowKit (Below)

inductive D where
 |undef
 |bool (b:Bool)
 |int (k:IntKind) (n:Int)
 |str (s:ByteArray)
 |nil
 |emp
 |mD
 |ig
 |iV
 |oG
 |fn (f:FuncId) (caps:List D)
 |agg (cs:List D)
 |bI (ds:List D)
 |sl (z:Nat) (rows:List (List D))
 |bE (cs:List D)
 |ref (r:Nat)
 |addr (r off:Nat)
 |cw (r z i k:Nat)
 |gq (r z lo len:Nat)
 |eC (r off z len cap:Nat)
 |own (z:Nat) (rows:List (List D))
 |box (cs:List D)

structure Env where
 t:Nat->D
 o:Nat->D
def e0:Env:=⟨λ_=>.undef,λ_=>.undef⟩
def ck(e:Env)(i:Nat)(d:D):Env:=⟨λj=>if j=i then d else e.t j,e.o⟩
def dU(e:Env)(i:Nat)(d:D):Env:=⟨e.t,λj=>if j=i then d else e.o j⟩
def LY(e:Env)(i:Nat)(d:D):(ck e i d).t i=d:=by simp[ck]
variable{d:D}{j i:Nat}{e:Env}
def uO(h:j≠i):(ck e i d).t j=e.t j:=by simp[ck,h]
def Wx(e:Env)(i:Nat)(d:D):(dU e i d).o i=d:=by simp[dU]
def Un(h:j≠i):(dU e i d).o j=e.o j:=by simp[dU,h]

mutual
def D.names:D->List Nat
 | .fn _ cs=>D.bW cs
 | .agg cs=>D.bW cs
 | .bI cs=>D.bW cs
 | .box cs=>D.bW cs
 | .ref r=>[r]
 | .addr r _=>[r]
 | .cw r _ _ _=>[r]
 | .gq r _ _ _=>[r]
 | .eC r _ _ _ _=>[r]
 | _=>[]
def D.bW:List D->List Nat
 | []=>[]
 |d::r=>d.names++D.bW r
end
theorem eO:∀{cs:List D} {s:Nat},s∈D.bW cs↔∃d∈cs,s∈d.names
 | [],s=>by simp[D.bW]
 |d::r,s=>by simp[D.bW,eO (cs:=r)]
mutual
/-- what names object r is forgotten -/
def D.kill(r:Nat):D->D
 | .fn f cs=>.fn f (D.lq r cs)
 | .agg cs=>.agg (D.lq r cs)
 | .bI cs=>.bI (D.lq r cs)
 | .box cs=>.box (D.lq r cs)
 | .ref s=>if s=r then .undef else .ref s
 | .addr s o=>if s=r then .undef else .addr s o
 | .cw s z i k=>if s=r then .undef else .cw s z i k
 | .gq s z l n=>if s=r then .undef else .gq s z l n
 | .eC s o z n c=>if s=r then .undef else .eC s o z n c
 |d=>d
def D.lq(r:Nat):List D->List D
 | []=>[]
 |d::l=>d.kill r::D.lq r l
end
theorem lF(r:Nat):∀cs:List D,D.lq r cs=cs.map (D.kill r)
 | []=>rfl
 |d::l=>by rw[D.lq,lF r l];rfl
def lp(r:Nat)(e:Env):Env:=⟨λj=>(e.t j).kill r,λj=>if j=r then .undef else(e.o j).kill r⟩

def gl:D->Prop
 | .undef| .agg _| .bI _| .box _| .own _ _=>False
 | _=>True
def dK(d:D):Prop:=gl d/\d.names=[]

structure Cx where
 V:Addr->Option Value
 S:Nat->Option Value

inductive aM(C:Cx):Value->D->Prop
 |undef (v:Value):aM C v .undef
 |bool (b:Bool):aM C (.bool b) (.bool b)
 |int (k:IntKind) (n:Int):aM C (.int k n) (.int k n)
 |str (s:ByteArray):aM C (.string s) (.str s)
 |nil:aM C (.slice none 0 0) .nil
 |emp (a:Option Addr):aM C (.slice a 0 0) .emp
 |mD:aM C .nilFunc .mD
 |ig:aM C .nilIface .ig
 |iV (t:TypeId) (v:Value):aM C (.iface t v) .iV
 |oG:aM C (.pointer none) .oG
 |fn (f:FuncId) (vs:Array Value) (ds:List D):vs.size=ds.length->(∀(i:Nat) v d,vs[i]?=some v->ds[i]?=some d->aM C v d)->aM C (.func (.func f) #[] vs) (.fn f ds)
 |agg (vs:Array Value) (ds:List D):vs.size=ds.length->(∀(i:Nat) v d,vs[i]?=some v->ds[i]?=some d->aM C v d)->aM C (.agg vs) (.agg ds)
 |bI (vs:Array Value) (ds:List D):vs.size=ds.length->(∀(i:Nat) v d,vs[i]?=some v->ds[i]?=some d->aM C v d)->aM C (.tuple vs) (.bI ds)
 |slnil (z:Nat):aM C (.slice none 0 0) (.sl z [])
 |sl (z:Nat) (a:Addr) (cap:Nat) (rows:List (List D)) (f:Nat->Nat->Value):rows.length<=cap->(∀r∈rows,r.length=z)->(∀r∈rows,∀d∈r,dK d) ->
   (∀(i j:Nat) r d,rows[i]?=some r->r[j]?=some d->C.V (a.add (i*z+j))=some (f i j)) ->
   (∀(i j:Nat) r d,rows[i]?=some r->r[j]?=some d->aM C (f i j) d)->aM C (.slice (some a) rows.length cap) (.sl z rows)
 |bE (a:Addr) (cs:List D) (f:Nat->Value):(∀d∈cs,d.names=[])->(∀(j:Nat) d,cs[j]?=some d->C.V (a.add j)=some (f j))->(∀(j:Nat) d,cs[j]?=some d->aM C (f j) d)->aM C (.pointer (some a)) (.bE cs)
 |ref (r:Nat) (a:Option Addr) (len cap:Nat):C.S r=some (.slice a len cap)->aM C (.slice a len cap) (.ref r)
 |addr (r off:Nat) (a:Addr):C.S r=some (.pointer (some a))->aM C (.pointer (some (a.add off))) (.addr r off)
 |cw (r z i k:Nat) (a:Addr) (len cap:Nat):C.S r=some (.slice (some a) len cap)->aM C (.pointer (some (a.add (i*z+k)))) (.cw r z i k)
 |gq (r z lo len:Nat) (a a':Option Addr) (L cap cap':Nat):C.S r=some (.slice a L cap)->(len≠0->∃b,a=some b/\a'=some (b.add (lo*z)))->len<=cap'->(a'=none->cap'=0)->aM C (.slice a' len cap') (.gq r z lo len)
 |eC (r off z len cap:Nat) (a:Addr) (a':Option Addr):C.S r=some (.pointer (some a))->(cap≠0->a'=some (a.add off))->len<=cap->aM C (.slice a' len cap) (.eC r off z len cap)

variable{v:Value}{C C':Cx}
theorem aM.keep(p:∀a v,C.V a=some v->C'.V a=some v)(r:aM C v d)(m:∀s∈d.names,∀u,C.S s=some u->C'.S s=some u):aM C' v d:=by
 induction r with
 |undef v=>exact .undef v
 |bool b=>exact .bool b
 |int k n=>exact .int k n
 |str s=>exact .str s
 |nil=>exact .nil
 |emp a=>exact .emp a
 |mD=>exact .mD
 |ig=>exact .ig
 |iV t v=>exact .iV t v
 |oG=>exact .oG
 |fn f vs ds hl _ ih=>exact .fn f vs ds hl λi v d g o=>ih i v d g o λs c=>m s (by simp only[D.names];exact eO.2 ⟨d,fO o,c⟩)
 |agg vs ds hl _ ih=>exact .agg vs ds hl λi v d g o=>ih i v d g o λs c=>m s (by simp only[D.names];exact eO.2 ⟨d,fO o,c⟩)
 |bI vs ds hl _ ih=>exact .bI vs ds hl λi v d g o=>ih i v d g o λs c=>m s (by simp only[D.names];exact eO.2 ⟨d,fO o,c⟩)
 |slnil z=>exact .slnil z
 |sl z a cap rows f hl hz hk hc _ ih =>
  refine .sl z a cap rows f hl hz hk (λi j r d g l=>p _ _ (hc i j r d g l)) λi j r d g l=>ih i j r d g l ?_;intro s c;rw[(hk r (fO g) d (fO l)).2]at c;cases c
 |bE a cs f hn hc _ ih =>
  refine .bE a cs f hn (λj d l=>p _ _ (hc j d l)) λj d l=>ih j d l ?_;intro s c;rw[hn d (fO l)]at c;cases c
 |ref r a len cap h=>exact .ref r a len cap (m r (by simp[D.names]) _ h)
 |addr r off a h=>exact .addr r off a (m r (by simp[D.names]) _ h)
 |cw r z i k a len cap h=>exact .cw r z i k a len cap (m r (by simp[D.names]) _ h)
 |gq r z lo len a a' L cap cap' h h1 h2 h3=>exact .gq r z lo len a a' L cap cap' (m r (by simp[D.names]) _ h) h1 h2 h3
 |eC r off z len cap a a' h h1 h2=>exact .eC r off z len cap a a' (m r (by simp[D.names]) _ h) h1 h2
def aM.mono(c:∀a v,C.V a=some v->C'.V a=some v)(b:∀s u,C.S s=some u->C'.S s=some u)(r:aM C v d):aM C' v d:=
 r.keep c λs _=>b s

mutual
theorem xd(r:Nat):∀(d:D),∀s∈(d.kill r).names,s∈d.names/\s≠r
 | .fn f cs=>λs h=>by simp only[D.kill,D.names]at h |-;exact oo r cs s h
 | .agg cs=>λs h=>by simp only[D.kill,D.names]at h |-;exact oo r cs s h
 | .bI cs=>λs h=>by simp only[D.kill,D.names]at h |-;exact oo r cs s h
 | .box cs=>λs h=>by simp only[D.kill,D.names]at h |-;exact oo r cs s h
 | .ref t=>λs h=>by simp only[D.kill]at h;split at h<;>simp_all[D.names]
 | .addr t o=>λs h=>by simp only[D.kill]at h;split at h<;>simp_all[D.names]
 | .cw t z i k=>λs h=>by simp only[D.kill]at h;split at h<;>simp_all[D.names]
 | .gq t z l n=>λs h=>by simp only[D.kill]at h;split at h<;>simp_all[D.names]
 | .eC t o z n c=>λs h=>by simp only[D.kill]at h;split at h<;>simp_all[D.names]
 | .undef| .bool _| .int _ _| .str _| .nil| .emp| .mD| .ig| .iV| .oG| .sl _ _| .bE _| .own _ _=>λs h=>by simp[D.kill,D.names]at h
theorem oo(r:Nat):∀(cs:List D),∀s∈D.bW (D.lq r cs),s∈D.bW cs/\s≠r
 | []=>λs h=>by simp[D.lq,D.bW]at h
 |d::l=>λs h=>by
  simp only[D.lq,D.bW,mem_append]at h |-;rcases h with h|h
  ·exact⟨.inl (xd r d s h).1,(xd r d s h).2⟩
  ·exact⟨.inr (oo r l s h).1,(oo r l s h).2⟩
end
theorem aM.acS(r:Nat)(h:aM C v d):aM C v (d.kill r):=by
 have o:∀(vs:Array Value)(ds:List D),vs.size=ds.length->(∀(i:Nat) v d,vs[i]?=some v->ds[i]?=some d->aM C v (d.kill r)) ->
   vs.size=(D.lq r ds).length/\∀(i:Nat) v d,vs[i]?=some v->(D.lq r ds)[i]?=some d->aM C v d:=by
  intro vs ds l m;rw[lF];refine⟨by simpa using l,?_⟩;intro i v d q p;simp only[getElem?_map]at p;cases e:ds[i]? with
  |none=>rw[e]at p;cases p
  |some x=>rw[e]at p;cases p;exact m i v x q e
 induction h with
 |fn f vs ds l h m=>obtain⟨c,g⟩:=o vs ds l m;simp only[D.kill];exact .fn f vs _ c g
 |agg vs ds l _ m=>obtain⟨c,g⟩:=o vs ds l m;simp only[D.kill];exact .agg vs _ c g
 |bI vs ds l _ m=>obtain⟨c,g⟩:=o vs ds l m;simp only[D.kill];exact .bI vs _ c g
 |undef v=>exact .undef v
 |bool b=>exact .bool b
 |int k n=>exact .int k n
 |str s=>exact .str s
 |nil=>exact .nil
 |emp a=>exact .emp a
 |mD=>exact .mD
 |ig=>exact .ig
 |iV t v=>exact .iV t v
 |oG=>exact .oG
 |slnil z=>exact .slnil z
 |sl z a cap rows f l hz hk hc c _=>exact .sl z a cap rows f l hz hk hc c
 |bE a cs f hn hc c _=>exact .bE a cs f hn hc c
 |ref r' a len cap h=>simp only[D.kill];split;exact .undef _;exact .ref r' a len cap h
 |addr r' off a h=>simp only[D.kill];split;exact .undef _;exact .addr r' off a h
 |cw r' z i k a len cap h=>simp only[D.kill];split;exact .undef _;exact .cw r' z i k a len cap h
 |gq r' z lo len a a' L cap cap' h c g h3=>simp only[D.kill];split;exact .undef _;exact .gq r' z lo len a a' L cap cap' h c g h3
 |eC r' off z len cap a a' h c g=>simp only[D.kill];split;exact .undef _;exact .eC r' off z len cap a a' h c g

def vis(w:World)(lev:Nat->Option Nat)(a:Addr):Option Value:=
 match lev a.block with
 |none=>w.cell? a
 |some n=>if a.off<n then w.cell? a else none
variable{lev:Nat->Option Nat}{w:World}
def rM{a:Addr}(h:vis w lev a=some v):w.cell? a=some v:=by
 unfold vis at h;split at h
 ·exact h
 ·split at h
  ·exact h
  ·cases h
abbrev cx(w:World)(lev:Nat->Option Nat)(S:Nat->Option Value):Cx:=⟨vis w lev,S⟩

def Ut(G:Nat->Option (Nat×Nat))(B b lo a:Nat):Prop:=B<=b\/∃l h,G b=some (l,h)/\l<=lo/\a<=h
def nj(B:Nat)(G:Nat->Option (Nat×Nat))(w:World)(lev own:Nat->Option Nat)(S:Nat->Option Value)(r:Nat):D->Prop
 | .box cs=>∃(b o:Nat)(c:Array Value)(E:TypeId),S r=some (.pointer (some ⟨b,o,none⟩))/\w.heap[b]?=some (.cells c E (0,0))/\o+cs.length<=c.size/\lev b=some 0/\own b=some r /\
   Ut G B b o (o+cs.length)/\∀(j:Nat) u e,c[o+j]?=some u->cs[j]?=some e->aM (cx w lev S) u e
 | .own z rows=>(∃a,S r=some (.slice a 0 0)/\rows=[])\/∃(b:Nat)(c:Array Value)(E:TypeId)(cap:Nat),S r=some (.slice (some ⟨b,0,none⟩) rows.length cap)/\w.heap[b]?=some (.cells c E (0,0)) /\
   c.size=cap*z/\rows.length<=cap/\(∀r∈rows,r.length=z)/\(∀r∈rows,∀d∈r,dK d)/\lev b=some 0/\own b=some r/\Ut G B b 0 c.size /\
   ∀(i j:Nat) row d,rows[i]?=some row->row[j]?=some d->∃u,c[i*z+j]?=some u/\aM (cx w lev S) u d
 | .undef=>S r=none
 | _=>False

def ni(tmps:Array Value):Nat->Value:=λt=>tmps.getD t Go.undef

def ny(f w:World)(b lo a:Nat):Prop:=
 ∃(c0 c:Array Value)(E:TypeId),f.heap[b]?=some (.cells c0 E (0,0))/\w.heap[b]?=some (.cells c E (0,0))/\c.size=c0.size/\∀j,(j<lo\/a<=j)->c[j]?=c0[j]?

inductive Xc where
 |ints (k:IntKind) (l:List Int)
 |ao1 (k:IntKind)
 |aoM
def Xc.holds:Xc->Array Value->Prop
 | .ints k l,c=>c=(l.map λn=>Value.int k n).toArray
 | .ao1 k,c=>∃n,c[0]?=some (.int k n)
 | .aoM,c=>∃v,c[0]?=some v/\(v=.nilIface\/∃t u,v=.iface t u)
def tabs:List (Nat×Xc):=[]
def Xd(w:World)(G:Nat->Option (Nat×Nat)):Prop:=∀t∈tabs,G t.1=none/\∃E x c,w.heap[t.1]?=some (.cells c E x)/\t.2.holds c
structure Inv(w0:World)(l0:Nat->Option Nat)(G:Nat->Option (Nat×Nat))(S0:Nat->Option Value)(w:World)(lev own:Nat->Option Nat)(S:Nat->Option Value)(env:Env)(tm:Nat->Value):Prop where
 os:w.os=w0.os/\Xd w0 G
 tape:w.tape=w0.tape
 output:w.output=w0.output
 size:w0.heap.size<=w.heap.size
 old:∀b,b<w0.heap.size->G b=none->w.heap[b]?=w0.heap[b]?
 part:∀b lo hi,G b=some (lo,hi)->ny w0 w b lo hi
 priv:∀b m,lev b=some m->b<w.heap.size
 kR:∀b,b<w0.heap.size->G b=none->lev b=l0 b
 RI:∀i,i<16->env.o i≠.undef->S i=S0 i
 pK:∀s,aM (cx w lev S) (tm s) (env.t s)
 objs:∀r,nj w0.heap.size G w lev own S r (env.o r)

def pV(w:World)(lev:Nat->Option Nat)(w':World)(lev':Nat->Option Nat):Prop:=∀a v,vis w lev a=some v->vis w' lev' a=some v
variable{w':World}{S S':Nat->Option Value}{lev':Nat->Option Nat}
def aM.jc(r:aM (cx w lev S) v d)(b:pV w lev w' lev')(a:∀s∈d.names,∀u,S s=some u->S' s=some u):aM (cx w' lev' S') v d:=
 aM.keep (C:=cx w lev S) (C':=cx w' lev' S') b r a
def aM.x7(r:aM (cx w lev S) v d)(b:pV w lev w' lev')(a:∀s u,S s=some u->S' s=some u):aM (cx w' lev' S') v d:=
 r.jc b λs _=>a s
def pV.refl(w:World)(lev:Nat->Option Nat):pV w lev w lev:=λ_ _ h=>h

abbrev D.I(n:Int):D:=.int .i64 n
end Go.Abs
namespace Go.Abs

structure FT where
 off:Nat
 sz:Nat
 agg:Bool
structure EX where
 agg:Bool
 sz:Nat
inductive Ty where
 |int (k:IntKind)
 |bool
 |str
 |ptr
 |func
 |slice (z by_:Nat) (eagg:Bool)
 |arr (n z:Nat) (eagg:Bool)
 |struct (fs:List FT)
 |bad

def Mg:TypeDesc->Bool
 | .struct _| .array _ _=>true
 | _=>false
def iF(P:Program)(t:TypeId):Option EX:=
 match P.underlying t,P.info? t with
 |some d,some i=>some ⟨Mg d,i.size⟩
 | _,_=>none
def qS(P:Program):List Field->Option (List FT)
 | []=>some []
 |f::r=>match iF P f.type,qS P r with
  |some l,some fs=>if l.sz=0 then none else some (⟨f.offset,l.sz,l.agg⟩::fs)
  | _,_=>none
def eH(P:Program)(t:TypeId):Ty:=
 match P.underlying t with
 |some (.int k)=>.int k
 |some .bool=>.bool
 |some .string=>.str
 |some (.pointer _)=>.ptr
 |some (.func _ _ _)=>.func
 |some (.slice e)=>match iF P e,P.info? e with
  |some l,some i=>if l.sz=0 then .bad else if(i.zero.map λv=>v.cells.size)=some l.sz then .slice l.sz i.bytes l.agg else .bad
  | _,_=>.bad
 |some (.array n e)=>match iF P e with
  |some l=>if l.sz=0 then .bad else .arr n l.sz l.agg
  |none=>.bad
 |some (.struct fs)=>match qS P fs.toList with
  |some l=>.struct l
  |none=>.bad
 | _=>.bad

def uX:Value->D
 | .bool b=>.bool b
 | .int k n=>.int k n
 | .string s=>.str s
 | .slice none 0 0=>.nil
 | .nilFunc=>.mD
 | .nilIface=>.ig
 | .pointer none=>.oG
 | _=>.undef
def rT:Value->D
 | .agg cs=>.agg (cs.toList.map uX)
 | .tuple vs=>if vs.size=0 then .bI []else .undef
 |v=>uX v
def nw(P:Program)(t:TypeId):Option (List D):=
 match P.info? t with
 |some i=>i.zero.map λv=>v.cells.toList.map uX
 |none=>none

def D.cells:D->List D
 | .agg cs=>cs
 |d=>[d]
def rd(e:Env):Operand->D
 | .tmp t=>e.t t
 | .const v=>rT v
 | .global _=>.undef
 | .func f=>.fn f []

def gd(g:Bool)(d:D):D:=if g then d else .bI []

def JF(c:BinOp)(k:IntKind)(a b:Int):D:=
 match c with
 | .add=>.int k (k.wrap (a+b))
 | .sub=>.int k (k.wrap (a-b))
 | .mul=>.int k (k.wrap (a*b))
 | .quo=>.int k (k.wrap (a.tdiv b))
 | .rem=>.int k (a.tmod b)
 | .and=>.int k (k.wrap (BitVec.ofInt k.bits a &&& BitVec.ofInt k.bits b).toNat)
 | .or=>.int k (k.wrap (BitVec.ofInt k.bits a |||BitVec.ofInt k.bits b).toNat)
 | .xor=>.int k (k.wrap (BitVec.ofInt k.bits a ^^^ BitVec.ofInt k.bits b).toNat)
 | .andNot=>.int k (k.wrap (BitVec.ofInt k.bits a &&& ~~~ BitVec.ofInt k.bits b).toNat)
 | .shl=>.int k (k.wrap (a*2^(min b.toNat k.bits)))
 | .shr=>.int k (a.fdiv (2^(min b.toNat k.bits)))
 | .eql=>.bool (a==b)
 | .neq=>.bool (a != b)
 | .lss=>.bool (decide (a<b))
 | .leq=>.bool (decide (a<=b))
 | .gtr=>.bool (decide (b<a))
 | .geq=>.bool (decide (b<=a))
def qc(c:BinOp)(k a:IntKind)(b:Int):Prop:=
 match c with
 | .shl| .shr=>0<=b
 | .quo| .rem=>k=a/\b≠0
 | _=>k=a
def sop(c:BinOp)(a b:ByteArray):D:=
 match c with
 | .add=>.str (a++b)
 | .eql=>.bool (a.toList==b.toList)
 | .neq=>.bool (!(a.toList==b.toList))
 | .lss=>.bool (Op.bytesLess a.toList b.toList)
 | .leq=>.bool (Op.bytesLess a.toList b.toList||a.toList==b.toList)
 | .gtr=>.bool (!(Op.bytesLess a.toList b.toList||a.toList==b.toList))
 | .geq=>.bool (!Op.bytesLess a.toList b.toList)
 | _=>.undef
def LN(c:BinOp)(a b:ByteArray):Prop:=
 match c with
 | .add=>a.size+b.size<=2^62
 | .eql| .neq| .lss| .leq| .gtr| .geq=>True
 | _=>False
inductive vu where
 |int|bool|str
def vO(lv:TypeId->Option (List vu)):List Field->Nat->Option (List vu)
 | [],_=>some []
 | f :: r, off => if f.name != "_" && f.offset == off then (match lv f.type with
  |some ls=>(vO lv r (off+ls.length)).map λrs=>ls++rs
  |none=>none)else none
def jZ(P:Program):Nat->TypeId->Option (List vu)
 | 0,_=>none
 |k+1,t=>match P.underlying t,iF P t with
  |some (.int _),some ⟨false,1⟩=>some [.int]
  |some .bool,some ⟨false,1⟩=>some [.bool]
  |some .string,some ⟨false,1⟩=>some [.str]
  |some (.struct fs),some ⟨true,sz⟩=>if P.stoodInHeld t||P.eqGuardType P.depth t then none else(match vO (jZ P k) fs.toList 0 with
   |some ls=>if ls.length=sz/\sz≠0 then some ls else none
   |none=>none)
  |some (.array n e),some ⟨true,sz⟩=>if P.eqGuardType P.depth t then none else(match jZ P k e with
   |some ls=>if n*ls.length=sz/\sz≠0 then some (List.replicate n ls).flatten else none
   |none=>none)
  | _,_=>none
def ym:D->D->Bool
 | .int _ a,.int _ b=>a==b
 | .bool a,.bool b=>a==b
 | .str a,.str b=>a==b
 | _,_=>false
def dI:List D->List D->Bool
 |a::x,b::y=>ym a b&&dI x y
 | _,_=>true
def Hu:vu->D->D->Prop
 | .int,.int k _,.int k' _=>k=k'
 | .bool,.bool _,.bool _=>True
 | .str,.str _,.str _=>True
 | _,_,_=>False
def fT:List vu->List D->List D->Prop
 | [],[],[]=>True
 |l::ls,a::x,b::y=>Hu l a b/\fT ls x y
 | _,_,_=>False
def KJ(a:BinOp)(b:Bool):D:=
 match a with
 | .eql=>.bool b
 | .neq=>.bool (!b)
 | _=>.undef
def zX(c:BinOp):D->D->D
 | .int k a,.int _ b=>JF c k a b
 | .str a,.str b=>sop c a b
 | .bool a,.bool b=>KJ c (a==b)
 | .agg a,.agg b=>KJ c (dI a b)
 | .ig,.ig=>KJ c true
 | .iV,.ig=>KJ c false
 | .ig,.iV=>KJ c false
 | .oG,.oG=>KJ c true
 | .addr _ _,.oG=>KJ c false
 | .bE _,.oG=>KJ c false
 | _,_=>.undef
def Gl(c:BinOp)(t:Ty):D->D->Prop
 | .int k _,.int k' b=>qc c k k' b
 | .str a,.str b=>LN c a b
 | .bool _,.bool _=>(c=.eql\/c=.neq)/\t=.bool
 | _,_=>False
def isEq(a:BinOp):Prop:=a=.eql\/a=.neq
def vP(o:Option (List vu))(a b:List D):Prop:=
 match o with
 |some ls=>fT ls a b
 |none=>False
def isIface(P:Program)(t:TypeId):Bool:=
 match P.underlying t with
 |some (.interface _)=>true
 | _=>false
def DJ(P:Program)(t:TypeId):Bool:=
 match iF P t with
 |some l=>l.agg
 |none=>false
def Pd:Ty->Prop
 | .ptr=>True
 | _=>False
def yl(P:Program)(c:Bool)(d:BinOp)(t:TypeId):D->D->Prop
 | .agg a,.agg b=>isEq d/\DJ P t=true/\vP (jZ P 9 t) a b
 | .ig,.ig=>isEq d/\isIface P t=true/\c=true
 | .iV,.ig=>isEq d/\isIface P t=true
 | .ig,.iV=>isEq d/\isIface P t=true
 | .oG,.oG=>isEq d/\Pd (eH P t)
 | .addr _ _,.oG=>isEq d/\Pd (eH P t)
 | .bE _,.oG=>isEq d/\Pd (eH P t)
 |a,b=>Gl d (eH P t) a b
def isConst:Operand->Bool
 | .const _=>true
 | _=>false
def zq(a:UnOp):D->D
 | .int k n=>match a with
  | .neg=>.int k (k.wrap (0-n))
  | .xor=>.int k (k.wrap (BitVec.ofInt k.bits (if k.signed then -1 else k.max) ^^^ BitVec.ofInt k.bits n).toNat)
  | _=>.undef
 | .bool b=>match a with
  | .not=>.bool (!b)
  | _=>.undef
 | _=>.undef
def vq(a:UnOp):D->Prop
 | .int _ _=>a=.neg\/a=.xor
 | .bool _=>a=.not
 | _=>False
def Ky(s t:Ty):D->D
 | .int _ n=>match t with
  | .int k=>.int k (k.wrap n)
  | _=>.undef
 | .str b=>match t with
  | .str=>.str b
  | _=>.undef
 |d=>match s,t with
  | _,_=>d
def GF(s t:Ty):D->Prop
 | .int _ _=>(∃k,t=.int k)/\∃k,s=.int k
 | .str _=>t=.str/\s=.str
 | _=>False

def part(agg:Bool)(off n:Nat)(cs:List D):D:=if agg then .agg ((cs.drop off).take n)else(cs.drop off).headD .undef
def WH(a:List FT)(f:Nat):D->D
 | .addr r o=>.addr r (o+((a[f]?).map (·.off)).getD 0)
 | .cw r z i k=>.cw r z i (k+((a[f]?).map (·.off)).getD 0)
 | .bE cs=>.bE (cs.drop (((a[f]?).map (·.off)).getD 0))
 | _=>.undef
def U0(a:List FT)(f:Nat):D->Prop
 | .addr _ _=>f<a.length
 | .cw _ _ _ _=>f<a.length
 | .bE _=>f<a.length
 | _=>False
def U6(e:Env)(t:Ty):D->D->D
 | .sl _ rows,.int _ i=>.bE (rows.getD i.toNat [])
 | .ref r,.int _ i=>match t with
  | .slice z _ _=>.cw r z i.toNat 0
  | _=>.undef
 | .gq r z lo _,.int _ i=>.cw r z (lo+i.toNat) 0
 | .eC r off z _ _,.int _ i=>.addr r (off+i.toNat*z)
 | .addr r o,.int _ i=>match t with
  | .arr _ z _=>.addr r (o+i.toNat*z)
  | _=>.undef
 | .cw r z j k,.int _ i=>match t with
  | .arr _ z' _=>.cw r z j (k+i.toNat*z')
  | _=>.undef
 | .bE cs,.int _ i=>match t with
  | .arr _ z _=>.bE (cs.drop (i.toNat*z))
  | _=>.undef
 | _,_=>.undef
def SM(z:Nat):Ty->Prop
 | .slice z' _ _=>z=z'
 | _=>False
def TY(z:Nat)(i:Int):D->Prop
 | .own z' rows=>z'=z/\i<rows.length
 | _=>False
def O2(e:Env)(t:Ty):D->D->Prop
 | .sl z rows,.int _ i=>SM z t/\0<=i/\i<rows.length
 | .ref r,.int _ i=>0<=i/\match t with
  | .slice z _ _=>TY z i (e.o r)
  | _=>False
 | .gq _ z _ len,.int _ i=>SM z t/\0<=i/\i<len
 | .eC _ _ z len _,.int _ i=>SM z t/\0<=i/\i<len
 | .addr _ _,.int _ i| .cw _ _ _ _,.int _ i| .bE _,.int _ i=>match t with
  | .arr n _ _=>0<=i/\i<n
  | _=>False
 | _,_=>False
def ixV(t:Ty):D->D->D
 | .agg cs,.int _ i=>match t with
  | .arr _ z a=>part a (i.toNat*z) z cs
  | _=>.undef
 | .str s,.int _ i=>.int .u8 ((s[i.toNat]?).map (·.toNat)|>.getD 0)
 | _,_=>.undef
def Pe(t:Ty):D->D->Prop
 | .agg cs,.int _ i=>match t with
  | .arr n z _=>0<=i/\i<n/\cs.length=n*z
  | _=>False
 | .str s,.int _ i=>t=.str/\0<=i/\i<s.size
 | _,_=>False
def U3(a:List FT)(f:Nat):D->D
 | .agg cs=>match a[f]? with
  |some x=>part x.agg x.off x.sz cs
  |none=>.undef
 | _=>.undef
def KR(a:List FT)(f:Nat):D->Prop
 | .agg cs=>match a[f]? with
  |some x=>x.off+x.sz<=cs.length
  |none=>False
 | _=>False
def ldB(l:EX)(o:Nat):D->D
 | .box cs=>part l.agg o l.sz cs
 | _=>.undef
def ldW(l:EX)(i k:Nat):D->D
 | .own _ rows=>part l.agg k l.sz (rows.getD i [])
 | _=>.undef
def ZG(e:Env)(l:EX):D->D
 | .addr r o=>ldB l o (e.o r)
 | .cw r _ i k=>ldW l i k (e.o r)
 | .bE cs=>part l.agg 0 l.sz cs
 | _=>.undef
def Ap(l:EX):Prop:=1<=l.sz/\(l.agg=false->l.sz=1)
def TJ(l:EX)(o:Nat):D->Prop
 | .box cs=>o+l.sz<=cs.length/\Ap l
 | _=>False
def TK(l:EX)(z i k:Nat):D->Prop
 | .own z' rows=>z'=z/\i<rows.length/\k+l.sz<=z/\Ap l
 | _=>False
def MG(e:Env)(l:EX):D->Prop
 | .addr r o=>TJ l o (e.o r)
 | .cw r z i k=>TK l z i k (e.o r)
 | .bE cs=>l.sz<=cs.length/\Ap l
 | _=>False
def nR(cs:List D)(o:Nat)(xs:List D):List D:=cs.take o++xs++cs.drop (o+xs.length)

def nN:List D->List (Nat×Nat×D)->List D
 |cs,[]=>cs
 |cs,(off,_,d)::r=>nN (nR cs off d.cells) r
def qx(n:Nat):List (Nat×Nat×D)->Prop
 | []=>True
 | (off,sz,d)::r=>d.cells.length=sz/\off+sz<=n/\(∀c∈d.cells,gl c)/\qx n r
def rowsOf(z:Nat):Nat->List D->List (List D)
 | 0,_=>[]
 |n+1,cs=>cs.take z::rowsOf z n (cs.drop z)

end Go.Abs
namespace Go.Abs

variable{t:TypeId}{i:TypeInfo}{l:EX}{v x y:Value}{k c:IntKind}{n:Int}{ds cs:List D}{rows:List (List D)}{z r off len cap:Nat}{op:BinOp}{b a:D}{d e:Operand}{f:UnOp}
section
variable{P:Program}{w:World}{V:Cx}

def bO{d:TypeDesc}(h:P.underlying t=some d)(w:World):(underlying t).run P w=.ok d w:=run_underlying h w
def pF(h:P.info? t=some i)(w:World):(typeInfo t).run P w=.ok i w:=by
 simp[typeInfo,program,h,Sem.run_bind,Sem.run]
def Y0(h:P.info? t=some i)(w:World):(sizeOf t).run P w=.ok i.size w:=by
 simp[sizeOf,pF h,Sem.run_bind,Sem.run]
def TI(h:iF P t=some l):∃d i,P.underlying t=some d/\P.info? t=some i/\l=⟨Mg d,i.size⟩:=by
 unfold iF at h;split at h
 ·rename_i d i g j;exact⟨d,i,g,j,by simpa using h.symm⟩
 ·cases h
def cY(h:iF P t=some l)(w:World):(sizeOf t).run P w=.ok l.sz w:=by
 obtain⟨d,i,_,g,rfl⟩:=TI h;exact Y0 g w
def Ec(h:iF P t=some l)(w:World):(isAgg t).run P w=.ok l.agg w:=by
 obtain⟨d,i,g,_,rfl⟩:=TI h;simp only[isAgg,Sem.run_bind,bO g];cases d<;>simp[Mg,Sem.run,pure]

def aM.eU(h:aM V v (.int k n)):v=.int k n:=by cases h;rfl
def aM.mo{b:Bool}(h:aM V v (.bool b)):v=.bool b:=by cases h;rfl
def aM.ru{s:ByteArray}(h:aM V v (.str s)):v=.string s:=by cases h;rfl
theorem aM.qQ(h:aM V v (.agg ds)):∃vs,v=.agg vs/\vs.size=ds.length/\∀(i:Nat) v d,vs[i]?=some v->ds[i]?=some d->aM V v d:=by
 cases h with
 |agg vs ds hl hi=>exact⟨vs,rfl,hl,hi⟩
theorem aM.C6(h:aM V v (.bI ds)):∃vs,v=.tuple vs/\vs.size=ds.length/\∀(i:Nat) v d,vs[i]?=some v->ds[i]?=some d->aM V v d:=by
 cases h with
 |bI vs ds hl hi=>exact⟨vs,rfl,hl,hi⟩
theorem aM.AZ{f:FuncId}(h:aM V v (.fn f ds)):∃vs,v=.func (.func f) #[] vs/\vs.size=ds.length/\∀(i:Nat) v d,vs[i]?=some v->ds[i]?=some d->aM V v d:=by
 cases h with
 |fn f vs ds hl hi=>exact⟨vs,rfl,hl,hi⟩
theorem aM.Bx(h:aM V v (.sl z rows)) :
  ∃a cap,v=.slice a rows.length cap/\rows.length<=cap/\(∀r∈rows,r.length=z)/\(∀r∈rows,∀d∈r,dK d) /\
   (a=none->rows=[]/\cap=0)/\∀g,a=some g->∀(i j:Nat) r d,rows[i]?=some r->r[j]?=some d->∃u,V.V (g.add (i*z+j))=some u/\aM V u d:=by
 cases h with
 |slnil z=>exact⟨none,0,rfl,by simp,by simp,by simp,λ_=>⟨rfl,rfl⟩,(λg h=>by cases h)⟩
 |sl z a cap rows f hl hz hk hV hR =>
  refine⟨some a,cap,rfl,hl,hz,hk,(λh=>by cases h),?_⟩;rintro g ⟨⟩ i j r d hi hj;exact⟨_,hV i j r d hi hj,hR i j r d hi hj⟩
theorem aM.qw(h:aM V v (.bE cs)) :
  ∃a,v=.pointer (some a)/\(∀d∈cs,d.names=[])/\∀(j:Nat) d,cs[j]?=some d->∃u,V.V (a.add j)=some u/\aM V u d:=by
 cases h with
 |bE a cs f hn hV hR=>exact⟨a,rfl,hn,λj d g=>⟨_,hV j d g,hR j d g⟩⟩
theorem aM.qY(h:aM V v (.ref r)):V.S r=some v/\∃a len cap,v=.slice a len cap:=by
 cases h with
 |ref r a len cap h=>exact⟨h,a,len,cap,rfl⟩
theorem aM.ld(h:aM V v (.addr r off)):∃a,V.S r=some (.pointer (some a))/\v=.pointer (some (a.add off)):=by
 cases h with
 |addr r off a h=>exact⟨a,h,rfl⟩
theorem aM.mV{i k:Nat}(h:aM V v (.cw r z i k)):∃a len cap,V.S r=some (.slice (some a) len cap)/\v=.pointer (some (a.add (i*z+k))):=by
 cases h with
 |cw r z i k a len cap h=>exact⟨a,len,cap,h,rfl⟩
theorem aM.o8{lo:Nat}(h:aM V v (.gq r z lo len)):∃a j L cap g,V.S r=some (.slice a L cap)/\v=.slice j len g/\(len≠0->∃b,a=some b/\j=some (b.add (lo*z)))/\len<=g/\(j=none->g=0):=by
 cases h with
 |gq r z lo len a j L cap g h h1 h2 h3=>exact⟨a,j,L,cap,g,h,rfl,h1,h2,h3⟩
theorem aM.j0(h:aM V v (.eC r off z len cap)):∃a j g,V.S r=some (.pointer (some a))/\v=.slice j len g/\(len≠0->j=some (a.add off))/\len<=g/\(j=none->g=0)/\g=cap/\(cap≠0->j=some (a.add off)):=by
 cases h with
 |eC r off z len cap a j h h1 h2 =>
  refine⟨a,j,cap,h,rfl,λm=>h1 (by omega),h2,?_,rfl,h1⟩;intro m;by_cases e:cap=0
  ·exact e
  ·have:=h1 e;rw[m]at this;cases this

def l8{a:Addr}(q:rows.length<=cap)(A:∀r∈rows,r.length=z)(p:∀r∈rows,∀d∈r,dK d)
  (h:∀(i j:Nat) r d,rows[i]?=some r->r[j]?=some d->∃u,V.V (a.add (i*z+j))=some u/\aM V u d):aM V (.slice (some a) rows.length cap) (.sl z rows):=
 .sl z a cap rows (λi j=>(V.V (a.add (i*z+j))).getD Go.undef) q A p
  (λi j r d g m=>by obtain⟨u,o,_⟩:=h i j r d g m;simp[o])
  (λi j r d g m=>by obtain⟨u,o,s⟩:=h i j r d g m;simpa[o]using s)
def n9{a:Addr}(o:∀d∈cs,d.names=[])(h:∀(j:Nat) d,cs[j]?=some d->∃u,V.V (a.add j)=some u/\aM V u d):aM V (.pointer (some a)) (.bE cs):=
 .bE a cs (λj=>(V.V (a.add j)).getD Go.undef) o
  (λj d g=>by obtain⟨u,m,_⟩:=h j d g;simp[m])
  (λj d g=>by obtain⟨u,m,p⟩:=h j d g;simpa[m]using p)

def uI(v:Value):aM V v (uX v):=by
 unfold uX;split<;>first|exact .bool _|exact .int _ _|exact .str _|exact .nil|exact .mD|exact .ig|exact .oG|exact .undef _
def Qs(v:Value):aM V v (rT v):=by
 unfold rT;split
 ·rename_i cs;refine .agg _ _ (by simp) ?_;intro i v d h g;simp only[List.getElem?_map]at g;have:cs.toList[i]?=some v:=by simpa using h
  rw[this]at g;simp at g;subst g;exact uI v
 ·rename_i vs;split
  ·rename_i j;have:vs = #[]:=by simpa using j
   subst this;exact .bI _ _ rfl (by intro i v d h;simp at h)
  ·exact .undef _
 ·exact uI _

/-! ### operators -/

def abC{m:Int}(h:qc op k c m)(w:World) :
  ∃u,(binOp op t (.int k n) (.int c m)).run P w=.ok u w/\aM V u (JF op k n m):=by
 cases op
 case shl=>exact⟨_,by have j:¬m<0:=Int.not_lt.2 h;simp[binOp,Op.shift,j,Sem.run,pure],.int _ _⟩
 case shr=>exact⟨_,by have j:¬m<0:=Int.not_lt.2 h;simp[binOp,Op.shift,j,Sem.run,pure],.int _ _⟩
 case quo =>
  have g:=h.1;have o:=h.2;subst g;exact⟨_,by simp[binOp,Op.intDiv,o,Sem.run,pure],.int _ _⟩
 case rem =>
  have g:=h.1;have o:=h.2;subst g;exact⟨_,by simp[binOp,Op.intDiv,o,Sem.run,pure],.int _ _⟩
 all_goals
  have g:k=c:=h;subst g;first
   |exact⟨_,by simp[binOp,Op.intArith,Op.intBits,Op.intCmp,Sem.run,pure],.int _ _⟩
   |exact⟨_,by simp[binOp,Op.intArith,Op.intBits,Op.intCmp,Sem.run,pure],.bool _⟩

def run_equalIn_bool(g:P.underlying t=some .bool)(d:Nat)(p q:Bool)(w:World):(Op.equalIn (d+1) t (.bool p) (.bool q)).run P w=.ok (p==q) w:=by
 unfold Op.equalIn;simp only[Sem.run_bind,bO g];rfl

def V4(j:aM V x a)(o:aM V y b)(h:Gl op (eH P t) a b)(w:World) :
  ∃u,(binOp op t x y).run P w=.ok u w/\aM V u (zX op a b):=by
 cases a<;>try exact h.elim
 case int k n =>
  cases b<;>try exact h.elim
  case int k' m =>
   rw[j.eU,o.eU];exact abC h w
 case str s =>
  cases b<;>try exact h.elim
  case str s' =>
   rw[j.ru,o.ru];simp only[Gl]at h;cases op<;>simp only[LN]at h<;>try exact h.elim
   case add =>
    refine⟨.string (s++s'),?_,.str _⟩;have:¬(((s.size+s'.size:Nat):Int)>IntKind.i64.max):=by
     simp[IntKind.max,IntKind.bits,IntKind.signed];omega
    simp only[binOp,Op.stringOp,au this];rfl
   all_goals exact⟨_,by simp only[binOp,Op.stringOp];rfl,by simp only[zX,sop];constructor⟩
 case bool p =>
  cases b<;>try exact h.elim
  case bool q =>
   rw[j.mo,o.mo];obtain⟨B,g⟩:=h;have C:P.underlying t=some .bool:=by
    unfold eH at g;split at g<;>first|assumption| (exfalso;revert g;(repeat' split)<;>simp)|cases g
   have A:(Op.equal t (.bool p) (.bool q)).run P w=.ok (p==q) w:=by
    exact run_equalIn_bool C 9999 p q w
   rcases B with rfl|rfl
   ·exact⟨.bool (p==q),by simp[binOp,Sem.run_bind,A,Sem.run,pure],by simp only[zX,KJ];constructor⟩
   ·exact⟨.bool (!(p==q)),by simp[binOp,Sem.run_bind,A,Sem.run,pure],by simp only[zX,KJ];constructor⟩

def V8(g:aM V x a)(h:vq f a)(w:World) :
  ∃u,(Op.unary f x).run P w=.ok u w/\aM V u (zq f a):=by
 cases a<;>try exact h.elim
 case int k n =>
  rw[g.eU];rcases h with rfl|rfl
  ·exact⟨.int k (k.wrap (0-n)),by simp only[Op.unary,Op.intArith];rfl,.int _ _⟩
  ·exact⟨_,by simp[Op.unary,Op.intBits,Sem.run,pure];rfl,by simp only[zq];constructor⟩
 case bool b =>
  rw[g.mo];simp only[vq]at h;subst h;exact⟨.bool (!b),rfl,by simp only[zq];constructor⟩

def Um(h:eH P t=.int k):P.underlying t=some (.int k):=by
 unfold eH at h;split at h<;>first| (cases h;assumption)|cases h| (exfalso;revert h;(repeat' split)<;>simp)
def C8(h:eH P t=.str):P.underlying t=some .string:=by
 unfold eH at h;split at h<;>first| (cases h;assumption)|cases h| (exfalso;revert h;(repeat' split)<;>simp)
def fR{n:Nat}{a:Bool}(h:eH P t=.slice z n a) :
  ∃e i,P.underlying t=some (.slice e)/\iF P e=some ⟨a,z⟩/\P.info? e=some i/\i.bytes=n/\z≠0/\∃j,i.zero=some j/\j.cells.size=z:=by
 unfold eH at h;split at h<;>try(cases h;done)
 ·rename_i e q;split at h<;>try(cases h;done)
  rename_i l i p o;split at h
  ·cases h
  ·split at h
   ·rename_i g;cases h;cases m:i.zero with
    |none=>rw[m]at g;cases g
    |some j =>
     rw[m]at g;exact⟨e,i,q,p,o,rfl,by assumption,j,m,by simpa using g⟩
   ·cases h
 ·split at h<;>try(cases h;done)
  split at h<;>cases h
 ·split at h<;>cases h
def C7{n:Nat}{a:Bool}(h:eH P t=.arr n z a):∃e,P.underlying t=some (.array n e)/\iF P e=some ⟨a,z⟩/\z≠0:=by
 unfold eH at h;split at h<;>try(cases h;done)
 ·split at h<;>try(cases h;done)
  split at h<;>try(cases h;done)
  split at h<;>cases h
 ·rename_i n' e j;split at h<;>try(cases h;done)
  rename_i l g;split at h
  ·cases h
  ·cases h;exact⟨e,j,g,by assumption⟩
 ·split at h<;>cases h
def BF{l:List FT}(h:eH P t=.struct l):∃g,P.underlying t=some (.struct g)/\qS P g.toList=some l:=by
 unfold eH at h;split at h<;>try(cases h;done)
 ·split at h<;>try(cases h;done)
  split at h<;>try(cases h;done)
  split at h<;>cases h
 ·split at h<;>try(cases h;done)
  split at h<;>cases h
 ·rename_i g j;split at h<;>try(cases h;done)
  cases h;exact⟨g,j,by assumption⟩
theorem AX:∀{m:List Field} {l:List FT},qS P m=some l->l.length=m.length/\∀(i:Nat) f,m[i]?=some f->∃ly,iF P f.type=some ly/\ly.sz≠0/\l[i]?=some ⟨f.offset,ly.sz,ly.agg⟩
 | [],l,h=>by simp only[qS,oF]at h;subst h;exact⟨rfl,by intro i f h;simp at h⟩
 |f::r,l,h=>by
  unfold qS at h;split at h<;>try(cases h;done)
  rename_i ly fs' q s;split at h
  ·cases h
  ·rename_i u;cases h;obtain⟨o,p⟩:=AX s;refine⟨by simp[o],?_⟩;intro i g j;cases i with
   |zero=>simp at j;subst j;exact⟨ly,q,u,rfl⟩
   |succ i=>simp at j |-;exact p i g j

def Qy{s d:TypeId}(m:aM V x a)(h:GF (eH P s) (eH P d) a)(w:World) :
  ∃u,(convert s d x).run P w=.ok u w/\aM V u (Ky (eH P s) (eH P d) a):=by
 cases a<;>try exact h.elim
 case int k n =>
  rw[m.eU];obtain⟨⟨o,g⟩,⟨k'',j⟩⟩:=h;refine⟨.int o (o.wrap n),?_,by simp only[Ky,g];constructor⟩;simp[convert,Sem.run_bind,bO (Um g),bO (Um j),Conv.intToInt,Sem.run,pure]
 case str b =>
  rw[m.ru];obtain⟨g,j⟩:=h;refine⟨.string b,?_,by simp only[Ky,g];constructor⟩;simp[convert,Sem.run_bind,bO (C8 g),bO (C8 j),Sem.run,pure]
end
end Go.Abs
namespace Go.Abs
open List

def add_add(a:Addr)(i j:Nat):(a.add i).add j=a.add (i+j):=by
 unfold Addr.add;by_cases b:i=0<;>by_cases e:j=0<;>simp[b,e,Nat.add_assoc]
def gP(b o j:Nat):(⟨b,o,none⟩:Addr).add j=⟨b,o+j,none⟩:=by
 unfold Addr.add;split
 ·rename_i h;simp[h]
 ·rfl
variable{E:TypeId}{c:Array Value}{d:Nat×Nat}
def lV(w:World)(b i:Nat)(h:w.heap[b]?=some (.cells c E d)):w.cell? ⟨b,i,none⟩=c[i]?:=by
 simp[World.cell?,h]

variable{l:EX}{t:TypeId}{a:Addr}{cs ds:List D}{x i:Value}{o f z m:Nat}{n:Int}{k:IntKind}{ea:Bool}
section
variable{P:Program}{w:World}{V:Cx}

theorem IL(e:iF P t=some l)(p:l.agg=false->l.sz=1)(cs:List Value)(b:cs.length=l.sz)
  (h:∀(j:Nat) v,cs[j]?=some v->w.cell? (a.add j)=some v) :
  (Instr.loadAt t (.pointer (some a))).run P w=.ok (if l.agg then .agg cs.toArray else cs.headD Go.undef) w:=by
 simp only[Instr.loadAt,Instr.sureAddr,loadVar,Sem.run_bind,Ec e];cases q:l.agg with
 |false =>
  have r:=p q
  match cs,b.trans r with
  | [v],_ =>
   have:=h 0 v rfl;simp[load,Sem.run,pure,Addr.add]at this |-;simp[Sem.bind,Sem.run,this]
 |true =>
  have g:=run_loadCells_list (P:=P) (w:=w) a cs h;rw[b]at g;simp[Sem.run_bind,cY e,g,Sem.run,pure]

theorem HU{n:Nat}(h:1<=n):((cs.take n).headD .undef)=cs.headD .undef:=by
 cases cs with
 |nil=>simp
 |cons a t=>cases n with
  |zero=>omega
  |succ n=>simp

theorem LB(p:l.agg=false->l.sz=1)(h0:1<=l.sz){vs:List Value}(g:vs.length=l.sz)(b:ds.length=l.sz)
  (h:∀(j:Nat) v d,vs[j]?=some v->ds[j]?=some d->aM V v d) :
  aM V (if l.agg then .agg vs.toArray else vs.headD Go.undef) (if l.agg then .agg ds else ds.headD .undef):=by
 cases q:l.agg with
 |true =>
  refine .agg _ _ (by simp[g,b]) ?_;intro i v d r s;exact h i v d (by simpa using r) s
 |false =>
  have e:=p q
  match vs,ds,g.trans e,b.trans e with
  | [v],[d],_,_=>exact h 0 v d rfl rfl

def NC(y:∀a v,V.V a=some v->w.cell? a=some v)(B:iF P t=some l)(F:aM V x (.bE cs))
  (hs:l.sz<=cs.length) (h:1<=l.sz) (p:l.agg=false->l.sz=1) :
  ∃u,(Instr.loadAt t x).run P w=.ok u w/\aM V u (part l.agg 0 l.sz cs):=by
 obtain⟨a,rfl,hn,A⟩:=F.qw
 let f:Nat->Value:=λj=>(V.V (a.add j)).getD Go.undef
 have s:∀(j:Nat) d,cs[j]?=some d->V.V (a.add j)=some (f j)/\aM V (f j) d:=by
  intro j d b;obtain⟨u,D,C⟩:=A j d b;simp only[f,D,Option.getD_some];exact⟨trivial,C⟩
 have e:((range l.sz).map f).length=l.sz:=by simp
 refine⟨_,IL B p ((range l.sz).map f) e ?_,?_⟩
 ·intro j v b;simp only[getElem?_map]at b;rcases dN j l.sz with hlt|hge
  ·rw[getElem?_range hlt]at b;simp at b;subst b;exact y _ _ (s j cs[j] (fj (by omega))).1
  ·rw[getElem?_eq_none (by simpa using hge)]at b;simp at b
 ·have:=LB (V:=V) p h (vs:=(range l.sz).map f) (ds:=cs.take l.sz) e (by simp;omega) (by
   intro j v d g r;rcases dN j l.sz with hlt|hge
   ·simp only[getElem?_map,getElem?_range hlt,Option.map_some,oF]at g;rw[getElem?_take_of_lt hlt]at r;subst g;exact(s j d r).2
   ·rw[getElem?_eq_none (by simpa using hge)]at g;cases g)
  unfold part;simp only[drop_zero];cases q:l.agg with
  |true=>simpa[q]using this
  |false =>
   rw[q]at this;simp only[Bool.false_eq_true,if_false]at this |-;rw[HU h]at this;exact this

def zi{l:List FT}(u:eH P t=.struct l)(q:f<l.length) :
  (Instr.fieldAt t (.pointer (some a)) f).run P w=.ok (.pointer (some (a.add (((l[f]?).map (·.off)).getD 0)))) w:=by
 obtain⟨g,v,e⟩:=BF u;obtain⟨s,r⟩:=AX e;have b:f<g.size:=by simpa[s]using q
 obtain⟨ly,h,j,p⟩:=r f g[f] (by simp[b]);simp[Instr.fieldAt,Sem.run_bind,bO v,b,Instr.sureAddr,fieldPlace,cY h,j,p,Sem.run,pure]

def abB{l:List FT}(q:eH P t=.struct l)(h:f<l.length)(r:aM V x (.bE cs)) :
  ∃u,(Instr.fieldAt t x f).run P w=.ok u w/\aM V u (.bE (cs.drop (((l[f]?).map (·.off)).getD 0))):=by
 obtain⟨a,rfl,p,e⟩:=r.qw;refine⟨_,zi q h,n9 (λd g=>p d (mem_of_mem_drop g)) ?_⟩;intro j d b;rw[getElem?_drop]at b;rw[add_add];exact e _ d b

theorem QA(j:iF P t=some l){vs:Array Value}(hn:vs.size=ds.length)
  (h:∀(i:Nat) v d,vs[i]?=some v->ds[i]?=some d->aM V v d) {off:Nat} (ho:off+l.sz<=ds.length) (h0:1<=l.sz) :
  ∃u,(Go.part t vs off).run P w=.ok u w/\aM V u (part l.agg off l.sz ds):=by
 simp only[Go.part,Sem.run_bind,Ec j,part];cases ha:l.agg with
 |true =>
  refine⟨.agg (vs.extract off (off+l.sz)),by simp[Sem.run_bind,cY j,Sem.run,pure],.agg _ _ (by simp;omega) ?_⟩;intro i v d g e;rcases dN i l.sz with b|hge
  ·rw[getElem?_take_of_lt b,getElem?_drop]at e;refine h (off+i) v d ?_ e;rw[Array.getElem?_extract]at g;split at g
   ·simpa using g
   ·cases g
  ·rw[getElem?_eq_none (by simp;omega)]at e;cases e
 |false =>
  have b:off<vs.size:=by omega
  refine⟨vs[off],by simp[b,Sem.run,pure],?_⟩;have e:(ds.drop off).headD .undef=ds[off]'(by omega):=by
   rw[drop_eq_getElem_cons (by omega)];rfl
  rw[au (by simp),e];exact h off _ _ (by simp[b]) (fj (by omega))

def V5{l:List FT}(C:eH P t=.struct l)(F:aM V x (.agg ds))(h:KR l f (.agg ds)) :
  ∃u,(Instr.field t x f).run P w=.ok u w/\aM V u (U3 l f (.agg ds)):=by
 obtain⟨p,D,j⟩:=BF C;obtain⟨y,v⟩:=AX j;obtain⟨vs,rfl,B,s⟩:=F.qQ;simp only[KR]at h;split at h
 ·rename_i ft b;have e:f<p.size:=by
   have:=(gU.1 b).1;simpa[y]using this
  obtain⟨ly,r,h2,q⟩:=v f p[f] (by simp[e]);rw[b]at q;cases q;obtain⟨u,A,g⟩:=QA (w:=w) r B s h (by omega);refine⟨u,?_,by simp only[U3,b];exact g⟩;simp[Instr.field,Sem.run_bind,bO D,e,asAgg,Sem.run,pure,A]
 ·exact h.elim

theorem run_indexAt_slice(C:eH P t=.slice z f ea){rows:List (List D)}
  (G:aM V x (.sl z rows)) (A:aM V i (.int k n)) (v:0<=n) (p:n<rows.length) :
  ∃u,(Instr.indexAt t x i).run P w=.ok u w/\aM V u (.bE (rows.getD n.toNat [])):=by
 obtain⟨e,inf,F,B,hin,hb,hz,_⟩:=fR C;obtain⟨a,cap,rfl,hcap,hrl,h,g,y⟩:=G.Bx;rw[A.eU];cases a with
 |none =>
  have:=(g rfl).1;subst this;simp at p;omega
 |some ad =>
  refine⟨.pointer (some (ad.add (n.toNat*z))),?_,n9 (λd q=>by
   have b:n.toNat<rows.length:=by omega
   have:rows.getD n.toNat []=rows[n.toNat]:=by simp[getD,fj b]
   rw[this]at q
   exact(h _ (dS b) d q).2) ?_⟩
  ·simp[Instr.indexAt,Sem.run_bind,asIntOf,bO F,v,p,cY B,Sem.run,pure]
  ·intro j d r;have b:n.toNat<rows.length:=by omega
   rw[add_add];have s:rows[n.toNat]?=some rows[n.toNat]:=fj b;have:rows.getD n.toNat []=rows[n.toNat]:=by simp[getD,s]
   rw[this]at r;exact y ad rfl n.toNat j _ d s r

def sn(p:eH P t=.arr m z ea)
  (h:aM V i (.int k n)) (b:0<=n) (g:n<m) :
  (Instr.indexAt t (.pointer (some a)) i).run P w=.ok (.pointer (some (a.add (n.toNat*z)))) w:=by
 obtain⟨e,q,j,hz⟩:=C7 p;rw[h.eU];simp[Instr.indexAt,Sem.run_bind,asIntOf,bO q,b,g,cY j,Instr.sureAddr,Sem.run,pure]

def J9(A:eH P t=.arr m z ea)
  (C:aM V x (.agg ds)) (s:aM V i (.int k n)) (j:0<=n) (p:n<m) (r:ds.length=m*z) :
  ∃u,(Instr.index t x i).run P w=.ok u w/\aM V u (part ea (n.toNat*z) z ds):=by
 obtain⟨e,B,h,D⟩:=C7 A;obtain⟨vs,rfl,y,q⟩:=C.qQ;rw[s.eU];have g:n.toNat*z+z<=ds.length:=by
  rw[r,<-Nat.succ_mul];exact tj z (by omega)
 obtain⟨u,v,b⟩:=QA (P:=P) (w:=w) h y q g (by simpa using Nat.one_le_iff_ne_zero.2 D);refine⟨u,?_,b⟩;simp[Instr.index,Sem.run_bind,asIntOf,bO B,j,p,cY h,v,Sem.run,pure]

def J'(h:eH P t=.str){s:ByteArray}
  (j:aM V x (.str s)) (g:aM V i (.int k n)) (e:0<=n) (h1:n<s.size) :
  ∃u,(Instr.index t x i).run P w=.ok u w/\aM V u (.int .u8 ((s[n.toNat]?).map (·.toNat)|>.getD 0)):=by
 rw[j.ru,g.eU];have b:n.toNat<s.size:=by omega
 refine⟨.int .u8 (s[n.toNat]'b).toNat,?_,?_⟩
 ·simp[Instr.index,Sem.run_bind,asIntOf,bO (C8 h),e,b,Sem.run,pure]
 ·simp[b];exact .int _ _

def CU(A:iF P t=some l)(y:∀(j:Nat) d,cs[j]?=some d->∃u,w.cell? (a.add j)=some u/\aM V u d)
  (hs:o+l.sz<=cs.length) (h:1<=l.sz) (p:l.agg=false->l.sz=1) :
  ∃u,(Instr.loadAt t (.pointer (some (a.add o)))).run P w=.ok u w/\aM V u (part l.agg o l.sz cs):=by
 let f:Nat->Value:=λj=>(w.cell? (a.add j)).getD Go.undef
 have s:∀(j:Nat) d,cs[j]?=some d->w.cell? (a.add j)=some (f j)/\aM V (f j) d:=by
  intro j d b;obtain⟨u,C,B⟩:=y j d b;simp only[f,C,Option.getD_some];exact⟨trivial,B⟩
 have e:((range l.sz).map λj=>f (o+j)).length=l.sz:=by simp
 refine⟨_,IL A p ((range l.sz).map λj=>f (o+j)) e ?_,?_⟩
 ·intro j v b;simp only[getElem?_map]at b;rcases dN j l.sz with hlt|hge
  ·rw[getElem?_range hlt]at b;simp at b;subst b;rw[add_add];exact(s _ cs[o+j] (fj (by omega))).1
  ·rw[getElem?_eq_none (by simpa using hge)]at b;simp at b
 ·have:=LB (V:=V) p h (vs:=(range l.sz).map λj=>f (o+j)) (ds:=(cs.drop o).take l.sz) e (by simp;omega) (by
   intro j v d g r;rcases dN j l.sz with hlt|hge
   ·simp only[getElem?_map,getElem?_range hlt,Option.map_some,oF]at g;rw[getElem?_take_of_lt hlt,getElem?_drop]at r;subst g;exact(s _ d r).2
   ·rw[getElem?_eq_none (by simpa using hge)]at g;cases g)
  unfold part;cases q:l.agg with
  |true=>simpa[q]using this
  |false =>
   rw[q]at this;simp only[Bool.false_eq_true,if_false]at this |-;rw[HU h]at this;exact this

end
end Go.Abs
namespace Go.Abs
open List

theorem yp:∀{a b x y:List D},a.length=b.length->dI (a++x) (b++y)=(dI a b&&dI x y)
 | [],[],x,y,_=>by simp[dI]
 | [],_::_,_,_,h=>by simp at h
 | _::_,[],_,_,h=>by simp at h
 |a::as,b::bs,x,y,h=>by simp[dI,yp (a:=as) (b:=bs) (by simpa using h),Bool.and_assoc]
theorem sJ:∀{f rs:List vu} {x y:List D},fT (f++rs) x y->fT f (x.take f.length) (y.take f.length)/\fT rs (x.drop f.length) (y.drop f.length)
 | [],rs,x,y,h=>by simpa[fT]using h
 |l::f,rs,[],y,h=>by simp[fT]at h
 |l::f,rs,a::x,[],h=>by simp[fT]at h
 |l::f,rs,a::x,b::y,h=>by
  simp only[cons_append,fT]at h;obtain⟨g,i⟩:=sJ h.2;simp[fT,h.1,g,i]
theorem oV:∀{f:List vu} {x y:List D},fT f x y->x.length=f.length/\y.length=f.length
 | [],[],[],_=>⟨rfl,rfl⟩
 | [],[],_::_,h=>h.elim
 | [],_::_,_,h=>h.elim
 | _::_,[],_,h=>h.elim
 | _::_,_::_,[],h=>h.elim
 |l::f,a::x,b::y,h=>by
  obtain⟨g,i⟩:=oV h.2;simp[g,i]

variable{off:Nat}{t:TypeId}{b a:D}{y x:Value}{op:BinOp}{c:List vu}{d e:Operand}
section
variable{P:Program}{w:World}{V:Cx}

def nO(a:Bool)(off sz:Nat)(vs:Array Value):Value:=if a then .agg (vs.extract off (off+sz))else(vs[off]?).getD Go.undef
theorem zT{l:EX}(g:iF P t=some l)(vs:Array Value)(ho:off+l.sz<=vs.size)(h0:1<=l.sz):(Go.part t vs off).run P w=.ok (nO l.agg off l.sz vs) w:=by
 simp only[Go.part,Sem.run_bind,Ec g,nO];cases ha:l.agg with
 |true=>simp[Sem.run_bind,cY g,Sem.run,pure]
 |false =>
  have f:off<vs.size:=by omega
  simp[f,Sem.run,pure]

def sx(V:Cx)(vs:Array Value)(off:Nat)(ds:List D):Prop:=off+ds.length<=vs.size/\∀(j:Nat) d,ds[j]?=some d->∃u,vs[off+j]?=some u/\aM V u d
def sx.sub{vs:Array Value}{ds:List D}(h:sx V vs off ds)(k n:Nat)(hn:k+n<=ds.length):sx V vs (off+k) ((ds.drop k).take n):=by
 refine⟨by have:=h.1;simp;omega,?_⟩;intro j d f;have g:j<n:=by have:=(gU.1 f).1;simp at this;omega
 rw[getElem?_take_of_lt g,getElem?_drop]at f;obtain⟨u,l,i⟩:=h.2 _ d f;exact⟨u,by rw[Nat.add_assoc];exact l,i⟩

def acY(P:Program)(l:vu)(t:TypeId):Prop:=
 match l with
 | .int=>∃k,P.underlying t=some (.int k)
 | .bool=>P.underlying t=some .bool
 | .str=>P.underlying t=some .string
def aaA{X:Array Value}{o:Nat}{cs:List D}(f:sx V X o cs)(sz:Nat)(hc:cs.length=sz):sx V (X.extract o (o+sz)) 0 cs:=by
 refine⟨by have:=f.1;simp;omega,?_⟩;intro j d g;have hlt:=(gU.1 g).1;obtain⟨u,i,h⟩:=f.2 j d g;refine⟨u,?_,h⟩;rw[Array.getElem?_extract];rw[aq (by have:=f.1;omega)];simpa using i
def YZ{l:vu}{k:Nat}(g:aM V x a)(i:aM V y b)(h:Hu l a b)
  (f:acY P l t) :
  (Op.equalIn (k+1) t x y).run P w=.ok (ym a b) w:=by
 cases l<;>cases a<;>(try exact h.elim)<;>cases b<;>(try exact h.elim)
 ·have e:_=_:=h;subst e;rw[g.eU,i.eU];obtain⟨k',j⟩:=f;unfold Op.equalIn;simp[Sem.run_bind,bO j,ym,Sem.run,pure]
 ·rw[g.mo,i.mo];unfold Op.equalIn;simp[Sem.run_bind,bO f,ym,Sem.run,pure]
 ·rw[g.ru,i.ru];unfold Op.equalIn;simp[Sem.run_bind,bO f,ym,Sem.run,pure]

theorem Cc(f:List vu):∀n,(replicate n f).flatten.length=n*f.length
 | 0=>by simp
 |n+1=>by simp[replicate_succ,Cc f n,Nat.succ_mul,Nat.add_comm]
theorem Hv:∀(k:Nat)(t:TypeId)(f:List vu),jZ P k t=some f->1<=f.length
 | 0,t,f,h=>by simp[jZ]at h
 |k+1,t,f,h=>by
  unfold jZ at h;split at h<;>try(cases h;done)
  ·cases h;simp
  ·cases h;simp
  ·cases h;simp
  ·split at h
   ·cases h
   ·split at h<;>try(cases h;done)
    split at h<;>try(cases h;done)
    rename_i g;cases h;omega
  ·split at h
   ·cases h
   ·split at h<;>try(cases h;done)
    split at h<;>try(cases h;done)
    rename_i g;cases h;rw[Cc];omega
def RK(m:Nat)(X Y:Array Value)(f:Field)(_s:Option Bool×Unit):Sem (ForInStep (Option Bool×Unit)):=
 if f.name ≠ "_" then do
  let x <-Go.part f.type X f.offset
  let y <-Go.part f.type Y f.offset
  let b <-Op.equalIn m f.type x y
  if(!b)=true then Sem.pure (ForInStep.done (some false,()))else Sem.pure (ForInStep.yield (none,()))
 else Sem.pure (ForInStep.yield (none,()))
def Mx(m:Nat)(X Y:Array Value)(e:TypeId)(sz:Nat)(i:Nat)(_s:Option Bool×Unit):Sem (ForInStep (Option Bool×Unit)):=do
 let x <-Go.part e X (i*sz)
 let y <-Go.part e Y (i*sz)
 let b <-Op.equalIn m e x y
 if(!b)=true then Sem.pure (ForInStep.done (some false,()))else Sem.pure (ForInStep.yield (none,()))
theorem Qz{k m:Nat}{X Y:Array Value} (H:∀(t:TypeId)(n:List vu),jZ P k t=some n->∀(xs ys:Array Value)(I J:Nat)(as bs:List D),sx V xs I as->sx V ys J bs->fT n as bs ->
  ∃l,iF P t=some l/\l.sz=n.length/\(Op.equalIn m t (nO l.agg I l.sz xs) (nO l.agg J l.sz ys)).run P w=.ok (dI as bs) w) :
  ∀(F:List Field)(off:Nat)(n:List vu)(as bs:List D),vO (jZ P k) F off=some n->sx V X off as->sx V Y off bs->fT n as bs ->
   (forIn F ((none,()):Option Bool×Unit) (RK m X Y)).run P w=.ok (if dI as bs then(none,())else(some false,())) w
 | [],off,n,as,bs,h,hx,hy,hok=>by
  simp only[vO,oF]at h;subst h
  match as,bs,hok with
  | [],[],_=>simp[dI,Sem.run,pure]
 |f::r,off,n,as,bs,h,hx,hy,hok=>by
  unfold vO at h;split at h<;>try(cases h;done)
  rename_i B;simp only[Bool.and_eq_true,bne_iff_ne,ne_eq,ff]at B;split at h<;>try(cases h;done)
  rename_i g q;cases p:vO (jZ P k) r (off+g.length)with
  |none=>rw[p]at h;cases h
  |some rs =>
   rw[p]at h;cases h;have j:=oV hok;obtain⟨o1,o2⟩:=sJ hok;have hxl:g.length<=as.length:=by rw[j.1];simp
   have hyl:g.length<=bs.length:=by rw[j.2];simp
   have u:=hx.sub 0 g.length (by omega);have z:=hy.sub 0 g.length (by omega);simp only[Nat.add_zero,drop_zero]at u z;obtain⟨l,i,C,s⟩:=H f.type g q X Y off off _ _ u z o1;have v:=hx.sub g.length (as.length-g.length) (by omega);have A:=hy.sub g.length (bs.length-g.length) (by omega);rw[take_of_length_le (by simp)]at v A;have E:=Qz H r (off+g.length) rs _ _ p v A o2;have G:1<=l.sz:=by rw[C];exact Hv k f.type g q
   have o:dI as bs=(dI (as.take g.length) (bs.take g.length)&&dI (as.drop g.length) (bs.drop g.length)):=by
    rw[<-yp (by simp;omega),mj,mj]
   have K:(Go.part f.type X f.offset).run P w=.ok (nO l.agg off l.sz X) w:=by
    rw[B.2];exact zT i X (by have:=hx.1;omega) G
   have L:(Go.part f.type Y f.offset).run P w=.ok (nO l.agg off l.sz Y) w:=by
    rw[B.2];exact zT i Y (by have:=hy.1;omega) G
   rw[forIn_cons];simp only[RK,B.1,ne_eq,not_false_eq_true,if_true,Sem.run_bind,K,L,s,Result.andThen_ok];rw[o];cases dI (as.take g.length) (bs.take g.length)with
   |false=>simp[Sem.run,pure,Sem.pure]
   |true =>
    simp only[Bool.not_true,Bool.false_eq_true,if_false,cm];rw[<-E];rfl
theorem LG{m:Nat}{X Y:Array Value}{e:TypeId}{f:List vu}{l:EX}(u:iF P e=some l)(g:l.sz=f.length)(v:1<=l.sz) (z:∀(xs ys:Array Value)(A B:Nat)(as bs:List D),sx V xs A as->sx V ys B bs->fT f as bs ->
  (Op.equalIn m e (nO l.agg A l.sz xs) (nO l.agg B l.sz ys)).run P w=.ok (dI as bs) w) :
  ∀(n i:Nat)(as bs:List D),sx V X (i*f.length) as->sx V Y (i*f.length) bs->fT (replicate n f).flatten as bs ->
   (forIn (range' i n) ((none,()):Option Bool×Unit) (Mx m X Y e l.sz)).run P w=.ok (if dI as bs then(none,())else(some false,())) w
 | 0,i,as,bs,hx,hy,hok=>by
  match as,bs,hok with
  | [],[],_=>simp[dI,Sem.run,pure]
 |n+1,i,as,bs,hx,hy,hok=>by
  simp only[replicate_succ,flatten_cons]at hok;have h:=oV hok;obtain⟨o1,o2⟩:=sJ hok;have hxl:f.length<=as.length:=by rw[h.1];simp
  have hyl:f.length<=bs.length:=by rw[h.2];simp
  have q:=hx.sub 0 f.length (by omega);have r:=hy.sub 0 f.length (by omega);simp only[Nat.add_zero,drop_zero]at q r;have j:=z X Y _ _ _ _ q r o1;have o:=hx.sub f.length (as.length-f.length) (by omega);have p:=hy.sub f.length (bs.length-f.length) (by omega);rw[take_of_length_le (by simp)]at o p;have F:i*f.length+f.length=(i+1)*f.length:=by rw[Nat.succ_mul]
  rw[F]at o p;have s:=LG u g v z n (i+1) _ _ o p o2;have k:dI as bs=(dI (as.take f.length) (bs.take f.length)&&dI (as.drop f.length) (bs.drop f.length)):=by
   rw[<-yp (by simp;omega),mj,mj]
  have C:(Go.part e X (i*l.sz)).run P w=.ok (nO l.agg (i*l.sz) l.sz X) w:=zT u X (by rw[g];have:=hx.1;omega) v;have E:(Go.part e Y (i*l.sz)).run P w=.ok (nO l.agg (i*l.sz) l.sz Y) w:=zT u Y (by rw[g];have:=hy.1;omega) v;rw[g]at j C E s |-;rw[range'_succ,forIn_cons];simp only[Mx,Sem.run_bind,C,E,j,Result.andThen_ok];rw[k];cases dI (as.take f.length) (bs.take f.length)with
  |false=>simp[Sem.run,pure,Sem.pure]
  |true =>
   simp only[Bool.not_true,Bool.false_eq_true,if_false,cm];rw[<-s];rfl
theorem uM:∀(k:Nat)(t:TypeId)(G:List vu),jZ P k t=some G->∀(m:Nat),k<=m->∀(xs ys:Array Value)(q s:Nat)(as bs:List D),sx V xs q as->sx V ys s bs->fT G as bs ->
  ∃l,iF P t=some l/\l.sz=G.length/\(Op.equalIn m t (nO l.agg q l.sz xs) (nO l.agg s l.sz ys)).run P w=.ok (dI as bs) w
 | 0,t,G,h=>by simp[jZ]at h
 |k+1,t,G,h=>by
  intro m hm xs ys q s as bs E F g;obtain⟨m,rfl⟩:∃m',m=m'+1:=⟨m-1,by omega⟩
  have K:=oV g;have C:∀lf:vu,G=[lf]->iF P t=some ⟨false,1⟩->acY P lf t ->
    ∃l,iF P t=some l/\l.sz=G.length/\(Op.equalIn (m+1) t (nO l.agg q l.sz xs) (nO l.agg s l.sz ys)).run P w=.ok (dI as bs) w:=by
   intro lf e z W;subst e
   match as,bs,g,E,F with
   | [a],[b],g,E,F =>
    refine⟨_,z,rfl,?_⟩;obtain⟨u,p,S⟩:=E.2 0 a rfl;obtain⟨v,hv,T⟩:=F.2 0 b rfl;simp only[nO,Bool.false_eq_true,if_false];simp only[Nat.add_zero]at p hv;rw[p,hv];rw[Option.getD_some,Option.getD_some,YZ S T g.1 W];simp[dI]
  unfold jZ at h;split at h<;>try(cases h;done)
  ·rename_i ik p z;cases h;exact C .int rfl z ⟨_,p⟩
  ·rename_i p z;cases h;exact C .bool rfl z p
  ·rename_i p z;cases h;exact C .str rfl z p
  ·-- a struct
   rename_i fs sz p z;split at h
   ·cases h
   rename_i U;split at h<;>try(cases h;done)
   rename_i f R;split at h<;>try(cases h;done)
   rename_i i;cases h;refine⟨_,z,i.1.symm,?_⟩;simp only[nO,if_true];have N:P.stoodInHeld t=false:=by
    cases e:P.stoodInHeld t with
    |false=>rfl
    |true=>simp[e]at U
   unfold Op.equalIn;simp only[Sem.run_bind,bO p,Result.andThen_ok,program,Sem.run,N];have j:=aaA E sz (by omega);have o:=aaA F sz (by omega);generalize xs.extract q (q+sz)=X at j |-;generalize ys.extract s (s+sz)=Y at o |-;simp only[Bool.false_eq_true,if_false,pure,Sem.run];have Q:=Qz (P:=P) (w:=w) (V:=V) (k:=k) (m:=m) (X:=X) (Y:=Y) (λt G W xs ys q s as bs E F M=>uM k t G W m (by omega) xs ys q s as bs E F M) fs.toList 0 _ as bs R j o g;have H:(forIn fs ((none,()):Option Bool×Unit) (RK m X Y)).run P w=.ok (if dI as bs then(none,())else(some false,())) w:=by rw[<-Array.forIn_toList];exact Q
   refine(Sem.run_bind ..).trans ?_;refine(congrArg (λr=>Result.andThen r _) H).trans ?_;cases dI as bs<;>rfl
  ·-- an array
   rename_i n e sz p z;split at h
   ·cases h
   split at h<;>try(cases h;done)
   rename_i f I;split at h<;>try(cases h;done)
   rename_i i;cases h;have hpos:=Hv k e f I;refine⟨_,z,by rw[Cc];exact i.1.symm,?_⟩;simp only[nO,if_true];unfold Op.equalIn;have B:as.length=sz/\bs.length=sz:=by rw[Cc]at K;omega
   have j:=aaA E sz (by omega);have o:=aaA F sz (by omega);generalize xs.extract q (q+sz)=X at j |-;generalize ys.extract s (s+sz)=Y at o |-
   have hn:1<=n:=by
    rcases Nat.eq_zero_or_pos n with h0|h0
    ·rw[h0]at i;omega
    ·exact h0
   have J:∃l,iF P e=some l/\l.sz=f.length:=by
    have Z:=j.sub 0 f.length (by rw[Nat.zero_add,B.1,<-i.1];exact Nat.le_mul_of_pos_left _ hn);have aa:=o.sub 0 f.length (by rw[Nat.zero_add,B.2,<-i.1];exact Nat.le_mul_of_pos_left _ hn);have M:fT f ((as.drop 0).take f.length) ((bs.drop 0).take f.length):=by
     obtain⟨n',rfl⟩:∃n',n=n'+1:=⟨n-1,by omega⟩
     rw[replicate_succ,flatten_cons]at g;exact(sJ g).1
    obtain⟨l,O,h2,_⟩:=uM k e f I m (by omega) X Y _ _ _ _ Z aa M;exact⟨l,O,h2⟩
   obtain⟨l,A,L⟩:=J
   have Q:=LG (P:=P) (w:=w) (V:=V) (m:=m) (X:=X) (Y:=Y) A L (by omega) (λxs ys q s as bs E F M=>by
    obtain⟨l',O,_,h3⟩:=uM k e f I m (by omega) xs ys q s as bs E F M;rw[A]at O;cases O
    exact h3) n 0 as bs (by simpa using j) (by simpa using o) g
   simp only[Sem.run_bind,bO p,Result.andThen_ok,cY A];have H:(forIn [0:n] ((none,()):Option Bool×Unit) (Mx m X Y e l.sz)).run P w=.ok (if dI as bs then(none,())else(some false,())) w:=by
    rw[Std.Legacy.Range.forIn_eq_forIn_range'];simpa[Std.Legacy.Range.size]using Q
   refine(congrArg (λr=>Result.andThen r _) H).trans ?_;cases dI as bs<;>rfl

def Pc(h:isIface P t=true):∃ms,P.underlying t=some (.interface ms):=by
 unfold isIface at h;split at h
 ·exact⟨_,by assumption⟩
 ·cases h
def Vb(h:Pd (eH P t)):∃e,P.underlying t=some (.pointer e):=by
 have f:eH P t=.ptr:=by
  cases e:eH P t<;>rw[e]at h<;>first|rfl|exact h.elim
 unfold eH at f;split at f<;>first|cases f|skip
 all_goals first
  |exact⟨_,by assumption⟩
  | (exfalso;revert f;(repeat' split)<;>simp)

def SF{c:Bool}(s:aM V x a)(z:aM V y b)(h:yl P c op t a b)(w:World) :
  ∃u,(binOp op t x y).run P w=.ok u w/\aM V u (zX op a b):=by
 have C:Gl op (eH P t) a b->∃u,(binOp op t x y).run P w=.ok u w/\aM V u (zX op a b):=λh=>V4 s z h w;have iface:∀r:Bool,isEq op->(Op.equal t x y).run P w=.ok r w->(∃p q,x=.iface p q\/x=.nilIface)->(∃p q,y=.iface p q\/y=.nilIface)->∃u,(binOp op t x y).run P w=.ok u w/\aM V u (KJ op r):=by
  rintro r f o ⟨p,q,A⟩ ⟨p',q',B⟩;rcases f with rfl|rfl<;>rcases A with rfl|rfl<;>rcases B with rfl|rfl <;>
   first
   |exact⟨.bool r,by simp[binOp,Sem.run_bind,o,Sem.run,pure],.bool _⟩
   |exact⟨.bool (!r),by simp[binOp,Sem.run_bind,o,Sem.run,pure],.bool _⟩
 have ptr:∀r:Bool,isEq op->(Op.equal t x y).run P w=.ok r w->(∃p,x=.pointer p)->(∃p,y=.pointer p)->∃u,(binOp op t x y).run P w=.ok u w/\aM V u (KJ op r):=by
  rintro r f o ⟨p,A⟩ ⟨p',B⟩;subst A;subst B;rcases f with rfl|rfl
  ·exact⟨.bool r,by simp[binOp,Sem.run_bind,o,Sem.run,pure],.bool _⟩
  ·exact⟨.bool (!r),by simp[binOp,Sem.run_bind,o,Sem.run,pure],.bool _⟩
 have m:∀u v:Value,isIface P t=true->x=u->y=v->∀r:Bool,((u=.nilIface/\v=.nilIface/\r=true)\/(∃p q,u=.iface p q/\v=.nilIface/\r=false)\/(∃p q,u=.nilIface/\v=.iface p q/\r=false))->(Op.equal t x y).run P w=.ok r w:=by
  rintro u v g rfl rfl r L;obtain⟨ms,O⟩:=Pc g;show(Op.equalIn (9999+1) t _ _).run P w=_;rcases L with⟨rfl,rfl,rfl⟩| ⟨p,q,rfl,rfl,rfl⟩| ⟨p,q,rfl,rfl,rfl⟩<;>(unfold Op.equalIn;simp only[Sem.run_bind,bO O,Result.andThen_ok];rfl)
 have k:∀u v:Option Addr,Pd (eH P t)->x=.pointer u->y=.pointer v->v=none->(Op.equal t x y).run P w=.ok u.isNone w:=by
  rintro u v g rfl rfl rfl;obtain⟨ms,O⟩:=Vb g;show(Op.equalIn (9999+1) t _ _).run P w=_;cases u<;>(unfold Op.equalIn;simp only[Sem.run_bind,bO O,Result.andThen_ok];rfl)
 cases a<;>cases b<;>(try exact C h)<;>(try exact h.elim)
 all_goals simp only[yl]at h
 ·obtain⟨f,g,_⟩:=h;cases s;cases z;exact iface true f (m _ _ g rfl rfl true (.inl ⟨rfl,rfl,rfl⟩)) ⟨0,.nilIface,.inr rfl⟩ ⟨0,.nilIface,.inr rfl⟩
 ·obtain⟨f,g⟩:=h;cases s;cases z;exact iface false f (m _ _ g rfl rfl false (.inr (.inr ⟨_,_,rfl,rfl,rfl⟩))) ⟨0,.nilIface,.inr rfl⟩ ⟨_,_,.inl rfl⟩
 ·obtain⟨f,g⟩:=h;cases s;cases z;exact iface false f (m _ _ g rfl rfl false (.inr (.inl ⟨_,_,rfl,rfl,rfl⟩))) ⟨_,_,.inl rfl⟩ ⟨0,.nilIface,.inr rfl⟩
 ·obtain⟨f,g⟩:=h;cases s;cases z;exact ptr true f (k _ _ g rfl rfl rfl) ⟨_,rfl⟩ ⟨_,rfl⟩
 ·-- structs
  rename_i as bs;obtain⟨f,J,F⟩:=h;unfold vP at F;split at F
  ·rename_i X K;obtain⟨vs,rfl,W,L⟩:=s.qQ;obtain⟨H,rfl,N,M⟩:=z.qQ;have E:∀(vs:Array Value)(ds:List D),vs.size=ds.length->(∀(i:Nat) v d,vs[i]?=some v->ds[i]?=some d->aM V v d)->sx V vs 0 ds:=by
    intro vs ds I Q;refine⟨by omega,?_⟩;intro j d S;have G:j<vs.size:=by rw[I];exact(gU.1 S).1
    exact⟨vs[j],by simp[G],Q j _ d (by simp[G]) S⟩
   obtain⟨l,I,Q,R⟩:=uM (P:=P) (w:=w) (V:=V) 9 t X K 10000 (by omega) vs H 0 0 as bs (E _ _ W L) (E _ _ N M) F;have hlen:=oV F;have n:l.agg=true:=by simpa[DJ,I]using J
   have o:(Op.equal t (.agg vs) (.agg H)).run P w=.ok (dI as bs) w:=by
     have U:nO l.agg 0 l.sz vs=.agg vs:=by simp[nO,n];right;omega
     have e2:nO l.agg 0 l.sz H=.agg H:=by simp[nO,n];right;omega
     rw[U,e2]at R;exact R
   rcases f with rfl|rfl
   ·exact⟨.bool _,by simp[binOp,Sem.run_bind,o,Sem.run,pure],.bool _⟩
   ·exact⟨.bool _,by simp[binOp,Sem.run_bind,o,Sem.run,pure],.bool _⟩
  ·exact F.elim
 ·obtain⟨f,g⟩:=h;obtain⟨T,rfl,_⟩:=s.qw;cases z;exact ptr false f (k _ _ g rfl rfl rfl) ⟨_,rfl⟩ ⟨_,rfl⟩
 ·obtain⟨f,g⟩:=h;obtain⟨T,_,rfl⟩:=s.ld;cases z;exact ptr false f (k _ _ g rfl rfl rfl) ⟨_,rfl⟩ ⟨_,rfl⟩

def MH(h:jZ P 9 t=some c)(f:DJ P t=true):P.eqGuardType P.depth t=false:=by
 unfold jZ at h;unfold DJ at f;split at h<;>try(cases h;done)
 ·rename_i g;rw[g]at f;cases f
 ·rename_i g;rw[g]at f;cases f
 ·rename_i g;rw[g]at f;cases f
 ·split at h
  ·cases h
  ·rename_i i;simp only[Bool.or_eq_true,not_or,Bool.not_eq_true]at i;exact i.2
 ·split at h
  ·cases h
  ·rename_i i;simpa using i
def NB(f:aM V x a)(g:aM V y b)(h:yl P (isConst d||isConst e) op t a b)(w:World) :
  (eqGuard op t d e x y).run P w=.ok () w:=by
 have i:Gl op (eH P t) a b->(eqGuard op t d e x y).run P w=.ok () w:=λh=>by
  cases a<;>try exact h.elim
  all_goals(cases b<;>try exact h.elim)
  ·rw[f.mo,g.mo];cases op<;>simp[eqGuard,Sem.run,pure]
  ·rw[f.eU,g.eU];cases op<;>simp[eqGuard,Sem.run,pure]
  ·rw[f.ru,g.ru];cases op<;>simp[eqGuard,Sem.run,pure]
 cases a<;>cases b<;>(try exact i h)<;>(try exact h.elim)
 all_goals simp only[yl]at h
 ·obtain⟨m,hi,o⟩:=h;cases f;cases g;clear i;rcases m with rfl|rfl<;>revert o<;>cases d<;>cases e<;>simp[isConst,eqGuard,Sem.run_bind,Sem.run,pure]
 ·cases f;cases g;cases op<;>simp[eqGuard,Sem.run,pure]
 ·cases f;cases g;cases op<;>simp[eqGuard,Sem.run,pure]
 ·cases f;cases g;cases op<;>simp[eqGuard,Sem.run,pure]
 ·obtain⟨m,j,k⟩:=h;unfold vP at k;split at k
  ·rename_i ls l;obtain⟨vs,rfl,_⟩:=f.qQ;obtain⟨us,rfl,_⟩:=g.qQ;have p:=MH l j;rcases m with rfl|rfl<;>simp[eqGuard,Sem.run_bind,program,p,Sem.run,pure]
  ·exact k.elim
 ·obtain⟨n,rfl,_⟩:=f.qw;cases g;cases op<;>simp[eqGuard,Sem.run,pure]
 ·obtain⟨n,_,rfl⟩:=f.ld;cases g;cases op<;>simp[eqGuard,Sem.run,pure]
end
end Go.Abs
namespace Go.Abs
open List

def FD(tm:Nat->Value)(s:Nat)(v:Value):Nat->Value:=λt=>if t=s then v else tm t
variable{s:Nat}
def Zn{tmps:Array Value}(h:s<tmps.size)(v:Value):ni (tmps.setIfInBounds s v)=FD (ni tmps) s v:=by
 funext t;simp only[ni,FD,Array.getD_eq_getD_getElem?,Array.getElem?_setIfInBounds];by_cases e:s=t
 ·subst e;simp[h]
 ·simp[e,Ne.symm e]

def eJ(c:Array Value)(o:Nat):List Value->Array Value
 | []=>c
 |v::r=>eJ (c.setIfInBounds o v) (o+1) r
theorem eo:∀(vs:List Value)(c:Array Value)(o:Nat),(eJ c o vs).size=c.size
 | [],_,_=>rfl
 |v::r,c,o=>by simp[eJ,eo r]
theorem mN:∀(vs:List Value)(c:Array Value)(o j:Nat),o+vs.length<=c.size ->
  (eJ c o vs)[j]?=if o<=j/\j<o+vs.length then vs[j-o]? else c[j]?
 | [],c,o,j,_=>by
  have:¬(o<=j/\j<o+([]:List Value).length):=by simp only[length_nil];omega
  simp only[eJ,au this]
 |v::r,c,o,j,h=>by
  simp only[length_cons]at h;rw[eJ,mN r _ _ j (by simp;omega)];by_cases e:o+1<=j/\j<o+1+r.length
  ·rw[aq e,aq (by simp only[length_cons];omega)];have:j-o=(j-(o+1))+1:=by omega
   rw[this];simp
  ·rw[au e];by_cases f:j=o
   ·subst f;have a:j<c.size:=by omega
    rw[aq (by simp only[length_cons];omega)];simp[a]
   ·rw[au (by simp only[length_cons];omega)];rw[Array.getElem?_setIfInBounds_ne (by omega)]

def gA(w:World)(b:Nat)(c:Array Value)(E:TypeId):World:={ w with heap:=w.heap.setIfInBounds b (.cells c E (0,0)) }
def EN(w:World)(b:Nat)(c:Array Value)(E:TypeId):(gA w b c E).heap.size=w.heap.size:=by simp[gA]
variable{b:Nat}{w:World}
def mK(h:b<w.heap.size)(c:Array Value)(E:TypeId):(gA w b c E).heap[b]?=some (.cells c E (0,0)):=by simp[gA,h]
variable{k:Nat}
def oB(h:k≠b)(c:Array Value)(E:TypeId):(gA w b c E).heap[k]?=w.heap[k]?:=by
 simp[gA,Array.getElem?_setIfInBounds_ne (Ne.symm h)]
def IQ{a:Addr}(h:a.block≠b)(c:Array Value)(E:TypeId):(gA w b c E).cell? a=w.cell? a:=by
 simp[World.cell?,oB h]
def lt_of_block{o:Obj}(h:w.heap[b]?=some o):b<w.heap.size:=(Array.getElem?_eq_some_iff.1 h).1

theorem kq{P:Program}(b o:Nat)(E:TypeId):∀(vs:List Value)(i:Nat)(c:Array Value)(w:World),w.heap[b]?=some (.cells c E (0,0))->o+i+vs.length<=c.size ->
  (∀v∈vs,v.oneCell'=true)->(storeCells ⟨b,o,none⟩ vs i).run P w=.ok () (gA w b (eJ c (o+i) vs) E)
 | [],i,c,w,hb,_,_=>by
  have:gA w b c E=w:=by
   have a:=lt_of_block hb;have n:w.heap[b]=.cells c E (0,0):=by simpa[Array.getElem?_eq_getElem a]using hb
   cases w with
   |mk heap tape drawn os out =>
    simp only[gA]at *;congr 1;apply Array.ext_getElem?;intro k;rw[Array.getElem?_setIfInBounds];by_cases e:b=k
    ·subst e;rw[aq rfl,aq a,hb]
    ·rw[au e]
  simp[storeCells,eJ,Sem.run,pure,this]
 |v::r,i,c,w,hb,hl,h1=>by
  simp only[length_cons]at hl;have a:o+i<c.size:=by omega
  have f:w.cell? ((⟨b,o,none⟩:Addr).add i)=some c[o+i]:=by rw[gP,lV w b _ hb];simp[a]
  have l:w.frozen? ((⟨b,o,none⟩:Addr).add i)=false:=by rw[gP];simp[World.frozen?,hb]
  have h:=h1 v (by simp);have j:w.setCell ((⟨b,o,none⟩:Addr).add i) v=gA w b (c.setIfInBounds (o+i) v) E:=by
   rw[gP];have g:=lt_of_block hb;have n:w.heap[b]=.cells c E (0,0):=by simpa[Array.getElem?_eq_getElem g]using hb
   simp only[World.setCell,gA];congr 1;apply Array.ext_getElem?;intro k;rw[Array.getElem?_setIfInBounds,Array.getElem?_modify];by_cases e:b=k
   ·subst e;rw[aq rfl,aq rfl,aq g,hb];simp
   ·rw[au e,au e]
  have m:(store ((⟨b,o,none⟩:Addr).add i) v).run P w=.ok () (gA w b (c.setIfInBounds (o+i) v) E):=by
   rw[<-j];simp only[store];cases v<;>first| (simp[Value.oneCell']at h;done)|simp[Sem.run,f,l]
  have q:=kq (P:=P) b o E r (i+1) (c.setIfInBounds (o+i) v) (gA w b (c.setIfInBounds (o+i) v) E) (mK (lt_of_block hb) _ _)
   (by simp;omega) (λx p=>h1 x (by simp[p]))
  simp only[storeCells,Sem.run_bind,m];have e:gA (gA w b (c.setIfInBounds (o+i) v) E) b (eJ (c.setIfInBounds (o+i) v) (o+(i+1)) r) E=gA w b (eJ c (o+i) (v::r)) E:=by
   simp[gA,eJ,Nat.add_assoc]
  rw[<-e,<-q];rfl


variable{v:Value}{V:Cx}{d:D}
def CT(h:aM V v d)(a:gl d):v.oneCell'=true/\v.cells = #[v]:=by
 cases h<;>first|exact a.elim|exact⟨rfl,rfl⟩
def uJ(h:aM V v d)(g:∀c∈d.cells,gl c) :
  v.cells.size=d.cells.length/\(∀x∈v.cells.toList,x.oneCell'=true)/\∀(j:Nat) u e,v.cells[j]?=some u->d.cells[j]?=some e->aM V u e:=by
 by_cases m:∃cs,d=.agg cs
 ·obtain⟨cs,rfl⟩:=m;obtain⟨vs,rfl,p,n⟩:=h.qQ;refine⟨p,?_,n⟩;intro x C;obtain⟨i,A⟩:=mem_iff_getElem?.1 C;have a:vs[i]?=some x:=by simpa[Value.cells]using A
  have f:i<cs.length:=by rw[<-p];exact(Array.getElem?_eq_some_iff.1 a).1
  exact(CT (n i x _ a (fj f)) (g _ (dS f))).1
 ·have z:d.cells=[d]:=by cases d<;>first|rfl|exact(m ⟨_,rfl⟩).elim
  rw[z]at g |-;obtain⟨t,y⟩:=CT h (g d (by simp));rw[y];refine⟨by simp,by simp[t],?_⟩;intro j u e q l;cases j with
  |zero=>simp at q l;subst q;subst l;exact h
  |succ j=>simp at l
variable{cs xs:List D}{o:Nat}
def rO(h:o+xs.length<=cs.length):(nR cs o xs).length=cs.length:=by simp[nR];omega
def Dh(h:o+xs.length<=cs.length)(j:Nat):(nR cs o xs)[j]?=if o<=j/\j<o+xs.length then xs[j-o]? else cs[j]?:=by
 unfold nR;have c:(cs.take o).length=o:=by simp;omega
 by_cases a:j<o
 ·rw[au (by omega),dz,getElem?_append_left (by omega),getElem?_take_of_lt a]
 ·rw[dz,getElem?_append_right (by omega),c];by_cases h2:j<o+xs.length
  ·rw[aq (by omega),getElem?_append_left (by omega)]
  ·rw[au (by omega),getElem?_append_right (by omega),getElem?_drop];congr 1;omega


variable{r:Nat}{α:Type}
section
variable{w0 w w':World}{l0:Nat->Option Nat}{G:Nat->Option (Nat×Nat)}{S0:Nat->Option Value}{lev lev' own own':Nat->Option Nat}{S S':Nat->Option Value}{env env':Env}{tm tm':Nat->Value}{B:Nat}

def nj.keep(h:nj B G w lev own S r d)(M:pV w lev w' lev')(x:∀s,(s=r\/s∈d.names)->∀u,S s=some u->S' s=some u)(l:d=.undef->S' r=none)
  (L:∀b,own b=some r->lev b=some 0->w'.heap[b]?=w.heap[b]?/\lev' b=lev b/\own' b=own b):nj B G w' lev' own' S' r d:=by
 cases d<;>try exact h.elim
 case undef=>exact l rfl
 case box cs =>
  obtain⟨b,o,c,E,f,g,A,n,p,q,t⟩:=h;obtain⟨C,F,H⟩:=L b p n;refine⟨b,o,c,E,x r (.inl rfl) _ f,C.trans g,A,F.trans n,H.trans p,q,?_⟩;intro j u e l I;refine(t j u e l I).jc M ?_;intro s y;exact x s (.inr (by simp only[D.names];exact eO.2 ⟨e,fO I,y⟩))
 case own z rows =>
  rcases h with⟨a,f,g⟩| ⟨b,c,E,cap,f,g,A,n,p,q,t,h8,h9,h10⟩
  ·exact .inl ⟨a,x r (.inl rfl) _ f,g⟩
  ·obtain⟨C,F,H⟩:=L b h8 t;refine .inr ⟨b,c,E,cap,x r (.inl rfl) _ f,C.trans g,A,n,p,q,F.trans t,H.trans h8,h9,?_⟩;intro i j m d J K;obtain⟨u,l,N⟩:=h10 i j m d J K;refine⟨u,l,N.jc M ?_⟩;intro s y;rw[(q m (fO J) d (fO K)).2]at y;cases y

def nj.live(h:nj B G w lev own S r d)(f:d≠.undef):∃v,S r=some v:=by
 cases d<;>try exact h.elim
 case undef=>exact(f rfl).elim
 case box cs=>obtain⟨b,o,c,E,e,_⟩:=h;exact⟨_,e⟩
 case own z rows =>
  rcases h with⟨a,e,h2⟩| ⟨b,c,E,cap,e,_⟩
  ·exact⟨_,e⟩
  ·exact⟨_,e⟩
def Inv.fresh(h:Inv w0 l0 G S0 w lev own S env tm)(a:env.o r=.undef):S r=none:=by
 have:=h.objs r;rw[a]at this;exact this

def Inv.put(h:Inv w0 l0 G S0 w lev own S env tm)(a:aM (cx w lev S) v d):Inv w0 l0 G S0 w lev own S (ck env s d) (FD tm s v) where
 os:=h.os
 tape:=h.tape
 output:=h.output
 size:=h.size
 old:=h.old
 part:=h.part
 priv:=h.priv
 kR:=h.kR
 RI:=h.RI
 pK:=λt=>by
  by_cases e:t=s
  ·subst e;rw[LY];simpa[FD]using a
  ·rw[uO e];simpa[FD,e]using h.pK t
 objs:=h.objs

def lP{α:Type}(f:Nat->Option α)(b:Nat)(x:Option α):Nat->Option α:=λk=>if k=b then x else f k
def gx(f:Nat->Option α)(b:Nat)(x:Option α):lP f b x b=x:=by simp[lP]
def gR(f:Nat->Option α)(x:Option α)(h:k≠b):lP f b x k=f k:=by simp[lP,h]

def Inv.kill(h:Inv w0 l0 G S0 w lev own S env tm)(r:Nat):Inv w0 l0 G S0 w lev own (lP S r none) (lp r env) tm where
 os:=h.os
 tape:=h.tape
 output:=h.output
 size:=h.size
 old:=h.old
 part:=h.part
 priv:=h.priv
 kR:=h.kR
 RI:=λi I a=>by
  simp only[lp]at a;by_cases e:i=r
  ·rw[aq e]at a;exact(a rfl).elim
  ·rw[au e]at a;rw[gR _ _ e];refine h.RI i I ?_;intro g;rw[g]at a;exact a rfl
 pK:=λs=>by
  simp only[lp];refine((h.pK s).acS r).jc (.refl _ _) ?_;intro k J u g;rw[gR _ _ (xd r _ k J).2];exact g
 objs:=λk=>by
  by_cases e:k=r
  ·subst e;simp only[lp,if_true];exact gx _ _ _
  ·simp only[lp,e,if_false];have l:=h.objs k;have f:nj w0.heap.size G w lev own S k ((env.o k).kill r):=by
    cases m:env.o k<;>rw[m]at l<;>try exact l.elim
    ·exact l
    ·exact l
    ·rename_i cs;obtain⟨b,o,c,E,t,y,z,A,C,F,H⟩:=l;simp only[D.kill];refine⟨b,o,c,E,t,y,by rw[lF];simpa using z,A,C,by rw[lF];simpa using F,?_⟩;intro j u e g a;rw[lF]at a;simp only[getElem?_map]at a;cases q:cs[j]? with
     |none=>rw[q]at a;cases a
     |some x=>rw[q]at a;cases a;exact(H j u x g q).acS r
   refine f.keep (.refl _ _) ?_ ?_ (λ_ _ _=>⟨rfl,rfl,rfl⟩)
   ·intro s p u g;have n:s≠r:=by
     rcases p with rfl|p
     ·exact e
     ·exact(xd r _ s p).2
    rw[gR _ _ n];exact g
   ·intro m;rw[gR _ _ e];rw[m]at f;exact f

structure aeb(w0:World)(l0:Nat->Option Nat)(G:Nat->Option (Nat×Nat))(w w':World)(lev':Nat->Option Nat):Prop where
 os:w'.os=w.os
 tape:w'.tape=w.tape
 output:w'.output=w.output
 size:w.heap.size<=w'.heap.size
 old:∀b,b<w0.heap.size->G b=none->w'.heap[b]?=w.heap[b]?
 part:∀b lo hi,G b=some (lo,hi)->ny w w' b lo hi
 priv:∀b m,lev' b=some m->b<w'.heap.size
 kR:∀b,b<w0.heap.size->G b=none->lev' b=l0 b
def ny.trans{b lo e:Nat}(n:ny w0 w b lo e)(p:ny w w' b lo e):ny w0 w' b lo e:=by
 obtain⟨c0,c,E,h,a2,a3,a4⟩:=n;obtain⟨c',a,E',f,i,l,m⟩:=p;rw[a2]at f;cases f;exact⟨c0,a,E,h,i,l.trans a3,λj g=>(m j g).trans (a4 j g)⟩
def ny.of_same{lo:Nat}(a:ny w0 w b lo r)(h:w'.heap[b]?=w.heap[b]?):ny w w' b lo r:=by
 obtain⟨c0,c,E,a1,a2,a3,a4⟩:=a;exact⟨c,c,E,a2,h.trans a2,rfl,λ_ _=>rfl⟩

def Inv.setObj(h:Inv w0 l0 G S0 w lev own S env tm)(f:aeb w0 l0 G w w' lev')(A:pV w lev w' lev')
  (t:∀s,s≠r->S' s=S s) (j:∀u,S r=some u->S' r=some u) (c:16<=r\/env.o r≠.undef)
  (C:∀b s,s≠r->env.o s≠.undef->own b=some s->lev b=some 0->w'.heap[b]?=w.heap[b]?/\lev' b=lev b/\own' b=own b)
  (D:nj w0.heap.size G w' lev' own' S' r d):Inv w0 l0 G S0 w' lev' own' S' (dU env r d) tm:=by
 have a:∀s u,S s=some u->S' s=some u:=by
  intro s u n;by_cases e:s=r
  ·subst e;exact j u n
  ·rw[t s e];exact n
 refine⟨⟨f.os.trans h.os.1,h.os.2⟩,f.tape.trans h.tape,f.output.trans h.output,Nat.le_trans h.size f.size,λb p l=>(f.old b p l).trans (h.old b p l),λb lo m l=>(h.part b lo m l).trans (f.part b lo m l),f.priv,f.kR,?_,?_,?_⟩
 ·intro i m z;by_cases e:i=r
  ·subst e;have q:env.o i≠.undef:=by
    rcases c with c|c
    ·omega
    ·exact c
   obtain⟨u,n⟩:=(h.objs i).live q;rw[j u n,<-n];exact h.RI i m q
  ·rw[t i e];rw[Un e]at z;exact h.RI i m z
 ·intro s;exact(h.pK s).x7 A a
 ·intro k;by_cases e:k=r
  ·subst e;rw[Wx];exact D
  ·rw[Un e];have g:=h.objs k;by_cases x:env.o k=.undef
   ·rw[x]at g |-
    show S' k=none;rw[t k e];exact g
   ·exact g.keep A (λs _=>a s) (λy=>(x y).elim) (λb p q=>C b k e x p q)
end
end Go.Abs
namespace Go.Abs

variable{b lo r z hi j i:Nat}{E t:TypeId}{c vs:Array Value}{d:D}{l:EX}{cs:List D}{v a:Value}{rows:List (List D)}
section
variable{P:Program}{w0 w w':World}{l0:Nat->Option Nat}{G:Nat->Option (Nat×Nat)}{S0:Nat->Option Value}{lev lev' own own':Nat->Option Nat}{S S':Nat->Option Value}{env env':Env}{tm tm':Nat->Value}{B:Nat}

def Ut.mono(h:Ut G B b lo hi)(h1:lo<=r)(h2:z<=hi):Ut G B b r z:=by
 rcases h with h| ⟨l,m,hg,ha,hb⟩
 ·exact .inl h
 ·exact .inr ⟨l,m,hg,by omega,by omega⟩
def pN(g:lev b=some 0):pV w lev (gA w b c E) lev:=by
 intro a u e;have f:a.block≠b:=by
  rintro rfl;unfold vis at e;rw[g]at e;simp at e
 unfold vis at e |-;rw[IQ f];exact e
def rN(h:Inv w0 l0 G S0 w lev own S env tm)(p:w.heap[b]?=some (.cells c E (0,0)))(u:vs.size=c.size)(q:Ut G w0.heap.size b lo hi)
  (g:∀j,(j<lo\/hi<=j)->vs[j]?=c[j]?):aeb w0 l0 G w (gA w b vs E) lev:=by
 refine⟨rfl,rfl,rfl,Nat.le_of_eq (EN _ _ _ _).symm,?_,?_,?_,h.kR⟩
 ·intro k hk n;refine oB ?_ _ _;rintro rfl;rcases q with f| ⟨l,m,f,_⟩
  ·omega
  ·rw[n]at f;cases f
 ·intro k l m n;have s:=h.part k l m n;by_cases e:k=b
  ·subst e;rcases q with f| ⟨l',m',f,h1,h2⟩
   ·obtain⟨c0,_,_,o,_⟩:=s;have:=lt_of_block o;omega
   ·rw[n]at f;cases f;exact⟨c,vs,E,p,mK (lt_of_block p) _ _,u,λj hj=>g j (by omega)⟩
  ·exact s.of_same (oB e _ _)
 ·intro k m f;rw[EN];exact h.priv k m f

def Inv.Zh(h:Inv w0 l0 G S0 w lev own S env tm){off:Nat}(Q:env.o r=.box cs)(Z:iF P t=some l)
  (C:aM (cx w lev S) v d) (Y:∀c∈d.cells,gl c) (K:d.cells.length=l.sz) (hoff:off+l.sz<=cs.length) (X:aM (cx w lev S) a (.addr r off)) :
  ∃w',(Instr.storeAt t a v).run P w=.ok () w'/\Inv w0 l0 G S0 w' lev own S (dU env r (.box (nR cs off d.cells))) tm:=by
 have k:=h.objs r;rw[Q]at k;obtain⟨b,o,c,E,L,F,V,M,N,O,W⟩:=k;obtain⟨R,n,rfl⟩:=X.ld;have:R=⟨b,o,none⟩:=by simp only[cx]at n;rw[L]at n;cases n;rfl
 subst this;obtain⟨m,A,J⟩:=uJ C Y;have y:(o+off)+v.cells.toList.length<=c.size:=by simp;omega
 have g:∀j,(eJ c (o+off) v.cells.toList)[j]?=if o+off<=j/\j<o+off+d.cells.length then v.cells[j-(o+off)]? else c[j]?:=by
  intro j;rw[mN _ _ _ _ y];have I:v.cells.toList.length=d.cells.length:=by simpa using m
  rw[I];simp
 refine⟨gA w b (eJ c (o+off) v.cells.toList) E,?_,?_⟩
 ·have:=kq (P:=P) b (o+off) E v.cells.toList 0 c w F (by simp;omega) A;simp only[Nat.add_zero]at this;simp[Instr.storeAt,Instr.sureAddr,storeVar,Sem.run_bind,cY Z,m,K,Sem.run,pure,gP,this]
 have p:pV w lev (gA w b (eJ c (o+off) v.cells.toList) E) lev:=pN M;refine h.setObj (rN h F (eo _ _ _) O ?_) p (λ_ _=>rfl) (λ_ h=>h) (.inr (by rw[Q];simp)) ?_ ?_
 ·intro j H;rw[g,au (by omega)]
 ·intro T s hs _ x _;have:T≠b:=by
   rintro rfl;rw[N]at x;cases x;exact hs rfl
  exact⟨oB this _ _,rfl,rfl⟩
 ·have D:(nR cs off d.cells).length=cs.length:=rO (by omega);refine⟨b,o,_,E,L,mK (lt_of_block F) _ _,by rw[eo,D];exact V,M,N,by rw[D];exact O,?_⟩;intro j u e q f;rw[g]at q;rw[Dh (by omega)]at f;by_cases H:off<=j/\j<off+d.cells.length
  ·rw[aq (by omega)]at q;rw[aq H]at f;have U:o+j-(o+off)=j-off:=by omega
   rw[U]at q;exact(J _ u e q f).x7 p λ_ _ h=>h
  ·rw[au (by omega)]at q;rw[au H]at f;exact(W j u e q f).x7 p λ_ _ h=>h

def wS{m:Nat}(hj:j<z)(hi:i<m):i*z+j<m*z:=by
 have:(i+1)*z<=m*z:=tj z hi;rw[Nat.succ_mul]at this;omega
def aaI(k:j<z)(e:b<z)(h:i*z+j=r*z+b):i=r/\j=b:=by
 have f:(i*z+j)/z=i:=by rw[Nat.mul_comm,Nat.mul_add_div (by omega),Nat.div_eq_of_lt k];rfl
 have g:(r*z+b)/z=r:=by rw[Nat.mul_comm,Nat.mul_add_div (by omega),Nat.div_eq_of_lt e];rfl
 have:i=r:=by rw[<-f,<-g,h]
 subst this;exact⟨rfl,by omega⟩

def Inv.Zi(h:Inv w0 l0 G S0 w lev own S env tm){k:Nat}(he:env.o r=.own z rows)(hl:iF P t=some l)
  (N:aM (cx w lev S) v d) (hc:∀c∈d.cells,dK c) (Y:d.cells.length=l.sz) (hi:i<rows.length) (hk:k+l.sz<=z) (ha:aM (cx w lev S) a (.cw r z i k)) :
  ∃w',(Instr.storeAt t a v).run P w=.ok () w'/\Inv w0 l0 G S0 w' lev own S (dU env r (.own z (rows.set i (nR (rows.getD i []) k d.cells)))) tm:=by
 have y:=h.objs r;rw[he]at y;rcases y with⟨_,_,L⟩| ⟨b,c,E,cap,h1,h2,h3,h4,h5,h6,h7,h8,h9,h10⟩
 ·rw[L]at hi;simp at hi
 obtain⟨ad,len',cap',D,rfl⟩:=ha.mV;have:ad=⟨b,0,none⟩:=by simp only[cx]at D;rw[h1]at D;cases D;rfl
 subst this;obtain⟨A,M,W⟩:=uJ N (λc g=>(hc c g).1);have O:rows.getD i []=rows[i]:=by simp[List.getD,hi]
 have X:rows[i].length=z:=h5 _ (dS hi);have R:(i+1)*z<=cap*z:=tj z (by omega);rw[Nat.succ_mul]at R;have J:(i*z+k)+v.cells.toList.length<=c.size:=by simp;omega
 have q:∀j,(eJ c (i*z+k) v.cells.toList)[j]?=if i*z+k<=j/\j<i*z+k+d.cells.length then v.cells[j-(i*z+k)]? else c[j]?:=by
  intro j;rw[mN _ _ _ _ J];have V:v.cells.toList.length=d.cells.length:=by simpa using A
  rw[V];simp
 refine⟨gA w b (eJ c (i*z+k) v.cells.toList) E,?_,?_⟩
 ·have:=kq (P:=P) b (i*z+k) E v.cells.toList 0 c w h2 (by simp;omega) M;simp only[Nat.add_zero]at this;simp[Instr.storeAt,Instr.sureAddr,storeVar,Sem.run_bind,cY hl,A,Y,Sem.run,pure,gP,this]
 have p:pV w lev (gA w b (eJ c (i*z+k) v.cells.toList) E) lev:=pN h7;refine h.setObj (rN h h2 (eo _ _ _) h9 ?_) p (λ_ _=>rfl) (λ_ h=>h) (.inr (by rw[he];simp)) ?_ ?_
 ·intro j T;rw[q,au (by omega)]
 ·intro b' s hs _ I _;have:b'≠b:=by
   rintro rfl;rw[h8]at I;cases I;exact hs rfl
  exact⟨oB this _ _,rfl,rfl⟩
 ·rw[O];have Q:(nR rows[i] k d.cells).length=z:=by rw[rO (by omega)];exact X
  have m:∀e∈rows.set i (nR rows[i] k d.cells),e∈rows\/e=nR rows[i] k d.cells:=λe h=>List.mem_or_eq_of_mem_set h;refine .inr ⟨b,_,E,cap,by rw[List.length_set];exact h1,mK (lt_of_block h2) _ _,by rw[eo];exact h3,by rw[List.length_set];exact h4,?_,?_,h7,h8,by rw[eo];exact h9,?_⟩
  ·intro e n;rcases m e n with n|rfl
   ·exact h5 e n
   ·exact Q
  ·intro e n x g;rcases m e n with n|rfl
   ·exact h6 e n x g
   ·unfold nR at g;rcases List.mem_append.1 g with g|g
    ·rcases List.mem_append.1 g with g|g
     ·exact h6 _ (dS hi) x (List.mem_of_mem_take g)
     ·exact hc x g
    ·exact h6 _ (dS hi) x (List.mem_of_mem_drop g)
  ·intro C j e x f g;have U:j<z:=by
    have:e.length=z:=by
     rcases m e (fO f)with n|rfl
     ·exact h5 e n
     ·exact Q
    rw[<-this];exact(gU.1 g).1
   rw[q];by_cases F:C=i
   ·subst F;rw[List.getElem?_set_self hi]at f;cases f;rw[Dh (by omega)]at g;by_cases T:k<=j/\j<k+d.cells.length
    ·rw[aq T]at g;rw[aq (by omega)];have e1:C*z+j-(C*z+k)=j-k:=by omega
     rw[e1];have K:j-k<v.cells.size:=by omega
     exact⟨v.cells[j-k],by simp[K],(W _ _ x (by simp[K]) g).x7 p λ_ _ h=>h⟩
    ·rw[au T]at g;rw[au (by omega)];obtain⟨u,Z,H⟩:=h10 C j rows[C] x (fj hi) g;exact⟨u,Z,H.x7 p λ_ _ h=>h⟩
   ·rw[List.getElem?_set_ne (Ne.symm F)]at f;obtain⟨u,Z,H⟩:=h10 C j e x f g;refine⟨u,?_,H.x7 p λ_ _ h=>h⟩;rw[au ?_]
    ·exact Z
    ·rintro⟨g1,g2⟩;have e2:C*z+j=i*z+(C*z+j-i*z):=by omega
     exact F (aaI U (by omega) e2).1

def heap_alloc_old(w:World)(o:Obj)(h:b<w.heap.size):(w.alloc o).heap[b]?=w.heap[b]?:=Go.RowKit.Below.heap_alloc w o b h
def heap_alloc_new(w:World)(o:Obj):(w.alloc o).heap[w.heap.size]?=some o:=by show(w.heap.push _)[w.heap.size]?=_;simp
def Jf(h:Inv w0 l0 G S0 w lev own S env tm)(o:Obj)(x:Option Nat):aeb w0 l0 G w (w.alloc o) (lP lev w.heap.size x):=by
 refine⟨rfl,rfl,rfl,by simp,?_,?_,?_,?_⟩
 ·intro b f _;exact heap_alloc_old w o (by have:=h.size;omega)
 ·intro b lo hi g;have k:=h.part b lo hi g;refine k.of_same (heap_alloc_old w o ?_);obtain⟨_,_,_,_,f,_⟩:=k;exact lt_of_block f
 ·intro b m e;by_cases f:b=w.heap.size
  ·subst f;simp
  ·rw[gR _ _ f]at e;have:=h.priv b m e;simp;omega
 ·intro b f g;rw[gR _ _ (by have:=h.size;omega)];exact h.kR b f g
def zw(w:World)(lev:Nat->Option Nat)(o:Obj)(x:Option Nat):pV w lev (w.alloc o) (lP lev w.heap.size x):=by
 intro a u g;have e:=World.block_lt_of_cell? _ _ (rM g);have f:a.block≠w.heap.size:=by omega
 unfold vis at g |-;rw[gR _ _ f,World.cell?_of_block (w:=w) (heap_alloc_old w o e)];exact g

def Inv.newObj(h:Inv w0 l0 G S0 w lev own S env tm)(k:16<=r)(q:env.o r=.undef)(T:TypeId)
  (y:∀lev' own' S',pV w lev (w.alloc (.cells vs T)) lev'->(∀s u,S s=some u->S' s=some u)->S' r=some v->(w.alloc (.cells vs T)).heap[w.heap.size]?=some (.cells vs T (0,0))->lev' w.heap.size=some 0->own' w.heap.size=some r->(∀lo hi,Ut G w0.heap.size w.heap.size lo hi) ->
   nj w0.heap.size G (w.alloc (.cells vs T)) lev' own' S' r d) :
  Inv w0 l0 G S0 (w.alloc (.cells vs T)) (lP lev w.heap.size (some 0)) (lP own w.heap.size (some r)) (lP S r (some v)) (dU env r d) tm:=by
 have n:=h.fresh q;refine h.setObj (Jf h _ _) (zw _ _ _ _) (λs p=>gR _ _ p) (λu f=>by rw[n]at f;cases f) (.inl k) ?_ ?_
 ·intro b s p _ hb x;have m:=h.priv b 0 x;have g:b≠w.heap.size:=by omega
  exact⟨heap_alloc_old w _ m,gR _ _ g,gR _ _ g⟩
 ·refine y _ _ _ (zw _ _ _ _) ?_ (gx _ _ _) (heap_alloc_new _ _) (gx _ _ _) (gx _ _ _) (λ_ _=>.inl h.size);intro s u f;by_cases e:s=r
  ·subst e;rw[n]at f;cases f
  ·rw[gR _ _ e];exact f

def Inv.afK(h:Inv w0 l0 G S0 w lev own S env tm)(g:16<=r)(q:env.o r=.undef)(T:TypeId)(hsz:vs.size=cs.length)
  (f:∀(j:Nat) u e,vs[j]?=some u->cs[j]?=some e->aM (cx w lev S) u e) :
  Inv w0 l0 G S0 (w.alloc (.cells vs T)) (lP lev w.heap.size (some 0)) (lP own w.heap.size (some r)) (lP S r (some (.pointer (some ⟨w.heap.size,0,none⟩)))) (dU env r (.box cs)) tm:=by
 refine h.newObj g q T ?_;intro lev' own' S' C n k x y A s;refine⟨w.heap.size,0,vs,T,k,x,by omega,y,A,s _ _,?_⟩;intro j u e m p;rw[Nat.zero_add]at m;exact(f j u e m p).x7 C n
def Inv.MQ(h:Inv w0 l0 G S0 w lev own S env tm)(f:16<=r)(s:env.o r=.undef){cap:Nat}(T:TypeId)(n:vs.size=cap*z)(D:rows.length<=cap)(J:∀r∈rows,r.length=z)(C:∀r∈rows,∀c∈r,dK c)
  (e:∀(i j:Nat) r c,rows[i]?=some r->r[j]?=some c->∃u,vs[i*z+j]?=some u/\aM (cx w lev S) u c) :
  Inv w0 l0 G S0 (w.alloc (.cells vs T)) (lP lev w.heap.size (some 0)) (lP own w.heap.size (some r)) (lP S r (some (.slice (some ⟨w.heap.size,0,none⟩) rows.length cap))) (dU env r (.own z rows)) tm:=by
 refine h.newObj f s T ?_;intro lev' own' S' I q g y k F x;refine .inr ⟨w.heap.size,vs,T,cap,g,y,n,D,J,C,k,F,x _ _,?_⟩;intro i j p c hi A;obtain⟨u,H,m⟩:=e i j p c hi A;exact⟨u,H,m.x7 I q⟩
def Inv.afL(h:Inv w0 l0 G S0 w lev own S env tm)(e:16<=r)(k:env.o r=.undef)(z:Nat)(a:Option Addr) :
  Inv w0 l0 G S0 w lev own (lP S r (some (.slice a 0 0))) (dU env r (.own z [])) tm:=by
 have g:=h.fresh k;refine h.setObj ⟨rfl,rfl,rfl,fS _,λ_ _ _=>rfl,?_,h.priv,h.kR⟩ (.refl _ _) (λs n=>gR _ _ n) (λu f=>by rw[g]at f;cases f) (.inl e) (λ_ _ _ _ _ _=>⟨rfl,rfl,rfl⟩) (.inl ⟨a,gx _ _ _,rfl⟩);intro b lo hi m;exact(h.part b lo hi m).of_same rfl
def Inv.drew(h:Inv w0 l0 G S0 w lev own S env tm):Inv w0 l0 G S0 w.drew lev own S env tm:=
 ⟨h.os,h.tape,h.output,h.size,h.old,h.part,h.priv,h.kR,h.RI,h.pK,h.objs⟩

def Inv.Ku(h:Inv w0 l0 G S0 w lev own S env tm)(q:env.o r=.box cs){a:Addr}(g:S r=some (.pointer (some a))) :
  ∀(j:Nat) d,cs[j]?=some d->∃u,w.cell? (a.add j)=some u/\aM (cx w lev S) u d:=by
 have e:=h.objs r;rw[q]at e;obtain⟨b,o,c,E,m,n,h3,h4,h5,h6,p⟩:=e;rw[m]at g;cases g;intro j d k;have f:o+j<c.size:=by have:=(gU.1 k).1;omega
 refine⟨c[o+j],?_,p j _ d (by simp[f]) k⟩;rw[gP,lV w b _ n];simp[f]
def Inv.CD(h:Inv w0 l0 G S0 w lev own S env tm)(n:env.o r=.own z rows) :
  ∃a cap,S r=some (.slice a rows.length cap)/\rows.length<=cap/\(∀r∈rows,∀d∈r,dK d)/\(∀r∈rows,r.length=z)/\(a=none->rows=[]/\cap=0)/\∀g,a=some g->∀(i j:Nat) row d,rows[i]?=some row->row[j]?=some d->∃u,w.cell? (g.add (i*z+j))=some u/\aM (cx w lev S) u d:=by
 have f:=h.objs r;rw[n]at f;rcases f with⟨a,k,rfl⟩| ⟨b,c,E,cap,k,h2,h3,h4,h5,h6,h7,h8,h9,h10⟩
 ·exact⟨a,0,k,by simp,by simp,by simp,λ_=>⟨rfl,rfl⟩,by simp⟩
 ·refine⟨_,cap,k,h4,h6,h5,(λe=>by cases e),?_⟩;rintro g ⟨⟩ i j row d hi hj;obtain⟨u,p,m⟩:=h10 i j row d hi hj;exact⟨u,by rw[gP,Nat.zero_add,lV w b _ h2];exact p,m⟩
end
end Go.Abs
namespace Go.Abs
open List hiding max

theorem KZ(m:Nat):∀(k c:Nat),Builtin.growBy m k c<=max c (m+(m+768)/4)
 | 0,c=>by simp[Builtin.growBy];omega
 |k+1,c=>by
  unfold Builtin.growBy;split
  ·omega
  ·refine Nat.le_trans (KZ m k _) ?_;omega
def nextslicecap_le{m c:Nat}(h:c<m):Builtin.nextslicecap m c<=2*m+192:=by
 unfold Builtin.nextslicecap;split
 ·omega
 ·split
  ·omega
  ·have:=KZ m 4 c;omega


def oL(w:World)(C:Cx)(v:Value)(z:Nat)(rows:List (List D)):Prop:=
 ∃a cap,v=.slice a rows.length cap/\rows.length<=cap/\(∀r∈rows,r.length=z)/\(∀r∈rows,∀d∈r,dK d)/\(a=none->rows=[]) /\
  ∀b,a=some b->∀(i j:Nat) row d,rows[i]?=some row->row[j]?=some d->∃u,w.cell? (b.add (i*z+j))=some u/\aM C u d

def Ai(w:World)(C:Cx)(v:Value)(z:Nat)(rows:List (List D)):Prop:=
 ∃a cap,v=.slice a rows.length cap/\rows.length<=cap/\(∀r∈rows,r.length=z)/\(∀r∈rows,∀d∈r,gl d)/\(a=none->rows=[]) /\
  ∀b,a=some b->∀(i j:Nat) row d,rows[i]?=some row->row[j]?=some d->∃u,w.cell? (b.add (i*z+j))=some u/\aM C u d

variable{v x y:Value}{rows rows2:List (List D)}{z cap by_:Nat}{w':World}{T2 T:TypeId}{a:Option Addr}{ea:Bool}
section
variable{P:Program}{V:Cx}{w:World}
def oL.toC(h:oL w V v z rows):Ai w V v z rows:=by
 obtain⟨a,cap,b,c,e,f,g,i⟩:=h;exact⟨a,cap,b,c,e,λr k d j=>(f r k d j).1,g,i⟩
def Ai.at(h:Ai w V v z rows)(n:w'.heap=w.heap):Ai w' V v z rows:=by
 obtain⟨a,cap,rfl,f,g,k,l,m⟩:=h;refine⟨a,cap,rfl,f,g,k,l,?_⟩;intro c e i j b d o p;obtain⟨u,r,q⟩:=m c e i j b d o p;exact⟨u,by rw[<-r];simp only[World.cell?,n],q⟩
def oL.nil(z:Nat)(a:Option Addr):oL w V (.slice a 0 0) z []:=⟨a,0,rfl,by simp,by simp,by simp,λ_=>rfl,by simp⟩
def oL.akY(n:∀a v,V.V a=some v->w.cell? a=some v)(h:aM V v (.sl z rows)):oL w V v z rows:=by
 obtain⟨a,cap,rfl,f,g,k,l,m⟩:=h.Bx;refine⟨a,cap,rfl,f,g,k,λe=>(l e).1,?_⟩;intro c e i j b d o p;obtain⟨u,r,q⟩:=m c e i j b d o p;exact⟨u,n _ _ r,q⟩
def oL.mono{C':Cx}(h:oL w V v z rows)(q:∀a v,V.V a=some v->C'.V a=some v):oL w C' v z rows:=by
 obtain⟨a,cap,rfl,m,n,c,o,p⟩:=h;refine⟨a,cap,rfl,m,n,c,o,?_⟩;intro l e i j b d f g;obtain⟨u,t,r⟩:=p l e i j b d f g;refine⟨u,t,r.keep q ?_⟩;intro s k;rw[(c b (fO f) d (fO g)).2]at k;cases k
def oL.at(h:oL w V v z rows)(n:w'.heap=w.heap):oL w' V v z rows:=by
 obtain⟨a,cap,rfl,f,g,k,l,m⟩:=h;refine⟨a,cap,rfl,f,g,k,l,?_⟩;intro c e i j b d o p;obtain⟨u,r,q⟩:=m c e i j b d o p;exact⟨u,by rw[<-r];simp only[World.cell?,n],q⟩

theorem BZ(J:z≠0)(I:Ai w V x z rows) :
  ∃cs:List Value,(Builtin.firstCells z rows.length x).run P w=.ok cs.toArray w/\cs.length=rows.length*z /\
   (∀(i j:Nat) r d,rows[i]?=some r->r[j]?=some d->∃u,cs[i*z+j]?=some u/\aM V u d)/\∀u∈cs,u.oneCell'=true:=by
 obtain⟨a,cap,rfl,hcap,t,H,o,E⟩:=I;cases a with
 |none =>
  have:=o rfl;subst this;exact⟨[],by simp[Builtin.firstCells,Sem.run,pure],by simp,by simp,by simp⟩
 |some ad =>
  have c:∀m,m<rows.length*z->∃u d,w.cell? (ad.add m)=some u/\aM V u d/\gl d:=by
   intro m h;have n:m/z<rows.length:=Nat.div_lt_of_lt_mul (by rw[Nat.mul_comm];exact h);have D:rows[m/z]?=some rows[m/z]:=fj n;have q:=t _ (dS n);have s:m%z<(rows[m/z]).length:=by rw[q];exact Nat.mod_lt _ (Nat.pos_of_ne_zero J)
   have F:(rows[m/z])[m%z]?=some (rows[m/z])[m%z]:=fj s;obtain⟨u,k,p⟩:=E ad rfl _ _ _ _ D F;have e:m/z*z+m%z=m:=by rw[Nat.mul_comm];exact Nat.div_add_mod m z
   rw[e]at k;exact⟨u,_,k,p,H _ (dS n) _ (dS s)⟩
  let f:Nat->Value:=λm=>(w.cell? (ad.add m)).getD Go.undef
  have l:((range (rows.length*z)).map f).length=rows.length*z:=by simp
  have g:∀m,m<rows.length*z->((range (rows.length*z)).map f)[m]?=some (f m):=by
   intro m h;simp[h]
  refine⟨(range (rows.length*z)).map f,?_,l,?_,?_⟩
  ·have:=run_loadCells_list (P:=P) (w:=w) ad ((range (rows.length*z)).map f) ?_
   ·rw[l]at this;simpa[Builtin.firstCells]using this
   ·intro m v h;have b:m<rows.length*z:=by
     have:=(gU.1 h).1;simpa using this
    rw[g m b]at h;cases h;obtain⟨u,d,k,_⟩:=c m b;simp only[f,k,Option.getD_some]
  ·intro i j r d n s;have q:=t r (fO n);have A:=(gU.1 n).1;have B:j<z:=by rw[<-q];exact(gU.1 s).1
   have b:i*z+j<rows.length*z:=wS B A;obtain⟨u,k,p⟩:=E ad rfl i j r d n s;exact⟨u,by rw[g _ b];simp[f,k],p⟩
  ·intro u k;obtain⟨m,h⟩:=mem_iff_getElem?.1 k;have b:m<rows.length*z:=by
    have:=(gU.1 h).1;simpa using this
   rw[g m b]at h;cases h;obtain⟨u,d,k,D,C⟩:=c m b;simp only[f,k,Option.getD_some];exact(CT D C).1
def Qv{i:Nat}{r:List D}(h:(rows++rows2)[i]?=some r):rows[i]?=some r\/(rows.length<=i/\rows2[i-rows.length]?=some r):=by
 by_cases b:i<rows.length
 ·rw[getElem?_append_left b]at h;exact .inl h
 ·rw[getElem?_append_right (by omega)]at h;exact .inr ⟨by omega,h⟩

def Kl(hT:eH P T=.slice z by_ ea)(R:∃e,P.underlying T2=some (.slice e))
  (hx:Ai w V (.slice a rows.length cap) z rows) (hy:Ai w V y z rows2) (C:¬rows.length+rows2.length<=cap) (hroom:Builtin.nextslicecap (rows.length+rows2.length) cap*by_<=2^48) (hneed:rows.length+rows2.length<=2^48) (T3:TypeId) :
  ∃(N:Nat)(e:TypeId)(cells:Array Value),rows.length+rows2.length<=N/\cells.size=N*z /\
   (Builtin.append_ #[T,T2] T3 #[.slice a rows.length cap,y]).run P w=.ok (.slice (some ⟨w.heap.size,0,none⟩) (rows.length+rows2.length) N) (w.drew.alloc (.cells cells e)) /\
   ∀(i j:Nat) row d,(rows++rows2)[i]?=some row->row[j]?=some d->∃u,cells[i*z+j]?=some u/\aM V u d:=by
 obtain⟨e,f,hu,hl,l,W,hz,zv,ag,ah⟩:=fR hT;obtain⟨e2,aa⟩:=R;have B:(w.drew).heap=w.heap:=rfl;have ab:=hx;have ad:=hy;obtain⟨a2,cap2,ae,hcap2,O,hk2,hnone2,hc2⟩:=ad;obtain⟨a1,cap1,ac,hcap1,M,hk1,hnone1,hc1⟩:=ab;cases ac;subst ae;have hcl:cap<rows.length+rows2.length:=by omega
 have h:¬Builtin.nextslicecap (rows.length+rows2.length) cap*f.bytes>2^48:=by
  rw[W];omega
 obtain⟨c,I,H,F,-⟩:=BZ (P:=P) (w:=w.drew) hz (hy.at B);obtain⟨g,K,b,J,-⟩:=BZ (P:=P) (w:=w.drew) hz (hx.at B);obtain⟨N,t⟩:∃N,N=(Question.appendCap (rows.length+rows2.length) cap e).cut (w.tape w.drawn (.appendCap (rows.length+rows2.length) cap e)):=⟨_,rfl⟩
 have hN:rows.length+rows2.length<=N:=by rw[t];simp only[Question.cut];omega
 let cells:Array Value:=g.toArray++c.toArray++Builtin.zeroCells zv.cells (N-(rows.length+rows2.length))
 have s:cells.size=N*z:=by
  simp only[cells,Builtin.zeroCells,Array.size_append,size_toArray,Array.size_map,Array.size_range,b,H,ah];rw[<-Nat.add_mul,<-Nat.add_mul];congr 1;omega
 have A:∀n,(askRoom n).run P w.drew=.ok () w.drew:=by
  intro n;unfold askRoom;split<;>simp[mark,Sem.run,pure]
 have X:(Question.appendCap (rows.length+rows2.length) cap e).forced=false:=rfl;have af:(zeroValue e).run P w.drew=.ok zv w.drew:=by
  simp[zeroValue,Sem.run_bind,pF l,ag,Sem.run,pure]
 have D:(typeInfo e).run P w=.ok f w:=pF l w;have m:(typeInfo e).run P w.drew=.ok f w.drew:=pF l _;refine⟨N,e,cells,hN,s,?_,?_⟩
 ·have Q:(newRow e cells).run P w.drew=.ok ⟨w.heap.size,0,none⟩ (w.drew.alloc (.cells cells e)):=by
   simp[newRow,newObj,Sem.run,Sem.bind,pure,bind,World.alloc]
  have hi3:¬((9223372036854775807:Int)<(rows.length:Int)+(rows2.length:Int)/\f.bytes=0):=by omega
  have U:¬ 281474976710656<Builtin.nextslicecap (rows.length+rows2.length) cap*f.bytes:=by
   intro hh;exact h (by simpa using hh)
  have p:(newRow e (g.toArray++(c.toArray++Builtin.zeroCells zv.cells (N-(rows.length+rows2.length))))).run P w.drew=.ok ⟨w.heap.size,0,none⟩ (w.drew.alloc (.cells cells e)):=by
   rw[<-Array.append_assoc];exact Q
  simp[Builtin.append_,Sem.run_bind,bO hu,bO aa,cY hl,Builtin.lenOf,C,D,hi3,U,X,<-t,A,m,K,I,af,p,Sem.run,pure]
 ·intro i j r d hi Y;have o:∀r∈rows++rows2,r.length=z:=by
   intro r L;rcases mem_append.1 L with L|L
   ·exact M r L
   ·exact O r L
  have Z:j<z:=by
   have:=o r (fO hi);rw[<-this];exact(gU.1 Y).1
  rcases Qv hi with hi'| ⟨hge,hi'⟩
  ·have E:=wS Z (gU.1 hi').1;obtain⟨u,k,q⟩:=J i j r d hi' Y;refine⟨u,?_,q⟩;simp only[cells];rw[Array.append_assoc,Array.getElem?_append_left (by simp[b];exact E)];simpa using k
  ·obtain⟨u,k,q⟩:=F _ j r d hi' Y;have hge':rows.length*z<=i*z:=tj z hge;have e1:i*z+j-rows.length*z=(i-rows.length)*z+j:=by rw[Nat.sub_mul];omega
   have E:(i-rows.length)*z+j<c.length:=(gU.1 k).1;refine⟨u,?_,q⟩;simp only[cells];rw[Array.append_assoc,Array.getElem?_append_right (by simp[b];omega),Array.getElem?_append_left (by simp[b];omega)];simp only[size_toArray,b,e1];simpa using k
def Xm(k:eH P T=.slice z by_ ea)(g:∃e,P.underlying T2=some (.slice e))
  (l:Ai w V (.slice a rows.length cap) z rows) (n:Ai w V y z rows2) (f:¬rows.length+rows2.length<=cap) (h:(by_+1)*(rows.length+rows2.length)<=2^45) (hby:by_<=2^32) (T3:TypeId) :
  ∃(N:Nat)(e:TypeId)(cells:Array Value),rows.length+rows2.length<=N/\cells.size=N*z /\
   (Builtin.append_ #[T,T2] T3 #[.slice a rows.length cap,y]).run P w=.ok (.slice (some ⟨w.heap.size,0,none⟩) (rows.length+rows2.length) N) (w.drew.alloc (.cells cells e)) /\
   ∀(i j:Nat) row d,(rows++rows2)[i]?=some row->row[j]?=some d->∃u,cells[i*z+j]?=some u/\aM V u d:=by
 refine Kl k g l n f ?_ ?_ T3
 ·have b:=nextslicecap_le (m:=rows.length+rows2.length) (c:=cap) (by omega);have h1:Builtin.nextslicecap (rows.length+rows2.length) cap*by_<=(2*(rows.length+rows2.length)+192)*by_:=tj _ b;have h2:by_*(rows.length+rows2.length)<=2^45:=Nat.le_trans (by rw[Nat.succ_mul];omega) h;have h3:(2*(rows.length+rows2.length)+192)*by_=2*(by_*(rows.length+rows2.length))+192*by_:=by
   rw[Nat.add_mul,Nat.mul_assoc,Nat.mul_comm (rows.length+rows2.length) by_]
  omega
 ·refine Nat.le_trans (Nat.le_trans ?_ h) (by omega);rw[Nat.succ_mul];omega
theorem Tl(s:eH P T=.slice z by_ ea)(k:∃e,P.underlying T2=some (.slice e)){len:Nat}
  (q:Ai w V y z rows2) (c:len+rows2.length<=cap) (T3:TypeId):∃news:List Value,news.length=rows2.length*z/\(∀(i j:Nat) r d,rows2[i]?=some r->r[j]?=some d->∃u,news[i*z+j]?=some u/\aM V u d)/\(∀u∈news,u.oneCell'=true) /\
   ∀b,(match a with|some ad=>storeCells (ad.add (len*z)) news|none=>pure ():Sem Unit).run P w=.ok () b->(Builtin.append_ #[T,T2] T3 #[.slice a len cap,y]).run P w=.ok (.slice a (len+rows2.length) cap) b:=by
 obtain⟨e,inf,p,o,hin,hbi,t,zv,hzv,hzz⟩:=fR s;obtain⟨e2,h⟩:=k;obtain⟨news,g,n,m,l⟩:=BZ (P:=P) (w:=w) t q;refine⟨news,n,m,l,?_⟩;intro b f;obtain⟨a2,cap2,rfl,_⟩:=q;cases a with
 |none =>
  have:b=w:=by simpa[Sem.run,pure]using f.symm
  subst this;simp[Builtin.append_,Sem.run_bind,bO p,bO h,cY o,Builtin.lenOf,c,g,Sem.run,pure]
 |some ad =>
  simp only at f;simp[Builtin.append_,Sem.run_bind,bO p,bO h,cY o,Builtin.lenOf,c,g,f,Sem.run,pure]
end

variable{N:Nat}
section
variable{P:Program}{w0 w w':World}{l0:Nat->Option Nat}{G:Nat->Option (Nat×Nat)}{S0:Nat->Option Value}{lev lev' own own':Nat->Option Nat}{S S':Nat->Option Value}{env env':Env}{tm tm':Nat->Value}

def oL.perm(h:oL w (cx w lev S) v z rows)(S':Nat->Option Value):oL w (cx w lev S') v z rows:=h.mono λ_ _ h=>h

def Inv.Tm(h:Inv w0 l0 G S0 w lev own S env tm)(g:16<=N)(H:env.o N=.undef)(r:eH P T=.slice z by_ ea)(k:∃e,P.underlying T2=some (.slice e))
  (C:oL w (cx w lev S) y z rows2) (Q:(by_+(1-by_))*rows2.length<=2^47) (T3:TypeId) :
  ∃v w' lev' own' S',(Builtin.append_ #[T,T2] T3 #[.slice a 0 0,y]).run P w=.ok v w'/\Inv w0 l0 G S0 w' lev' own' S' (dU env N (.own z rows2)) tm/\S' N=some v/\∃a l c,v=.slice a l c:=by
 obtain⟨e,inf,I,hl,hin,hbi,hz,zv,hzv,hzz⟩:=fR r;by_cases q:rows2=[]
 ·subst q;obtain⟨news,A,_,_,p⟩:=Tl (P:=P) (w:=w) (V:=cx w lev S) r k (a:=a) (len:=0) (cap:=0) C.toC (by simp) T3;have:news=[]:=length_eq_zero_iff.1 (by simpa using A);subst this;refine⟨.slice a 0 0,w,lev,own,_,?_,h.afL g H z a,gx _ _ _,_,_,_,rfl⟩;exact p w (by cases a<;>simp[storeCells,Sem.run,pure])
 ·have m:¬([]:List (List D)).length+rows2.length<=0:=by
   have:=length_pos_iff.2 q;simp;omega
  have hpos:=length_pos_iff.2 q;have f:Builtin.nextslicecap (([]:List (List D)).length+rows2.length) 0*by_<=2^48:=by
   have e:Builtin.nextslicecap (([]:List (List D)).length+rows2.length) 0=rows2.length:=by
    unfold Builtin.nextslicecap;rw[aq (by simp;omega)];simp
   rw[e,Nat.mul_comm];refine Nat.le_trans (Nat.le_trans (tj _ (Nat.le_add_right _ (1-by_))) Q) (by omega)
  have b:([]:List (List D)).length+rows2.length<=2^48:=by
   have F:1*rows2.length<=(by_+(1-by_))*rows2.length:=tj _ (by omega);simp only[length_nil];omega
  obtain⟨M,J,cells,F,K,L,O⟩:=Kl (P:=P) (w:=w) (V:=cx w lev S) r k (a:=a) (cap:=0) (rows:=[]) (oL.nil z a).toC C.toC m f b T3;obtain⟨a2,cap2,rfl,hcap2,n,t,hnone2,hc2⟩:=C
  have s:=h.drew.MQ g H (vs:=cells) (z:=z) (cap:=M) (rows:=rows2) J K (by simpa using F) n t (by
   intro i j E d s R;obtain⟨u,I,B⟩:=O i j E d (by simpa using s) R
   exact⟨u,I,aM.jc (w:=w) (w':=w.drew) (lev':=lev) B (λ_ _ h=>h) (λ_ _ _ h=>h)⟩)
  refine⟨_,_,_,_,_,L,s,?_,_,_,_,rfl⟩;rw[gx];simp

def Inv.aab(h:Inv w0 l0 G S0 w lev own S env tm){r:Nat}(he:env.o r=.own z rows)(F:16<=N)(hf:(lp r env).o N=.undef)(hT:eH P T=.slice z by_ ea)(H:∃e,P.underlying T2=some (.slice e))
  (O:S r=some x) (hy:oL w (cx w lev S) y z rows2) (hb:(by_+1)*(rows.length+rows2.length)<=2^45) (ab:by_<=2^32) (T3:TypeId) :
  ∃v w' lev' own' S',(Builtin.append_ #[T,T2] T3 #[x,y]).run P w=.ok v w'/\Inv w0 l0 G S0 w' lev' own' S' (dU (lp r env) N (.own z (rows++rows2))) tm/\S' N=some v/\∃a l c,v=.slice a l c:=by
 have Z:=h.kill r;have D:=h.objs r;rw[he]at D;rcases D with⟨a,Y,rfl⟩| ⟨b,c,E,cap,Y,Q,h3,h4,h5,h6,h7,h8,h9,h10⟩
 ·rw[Y]at O;cases O
  exact Z.Tm F hf hT H (hy.perm _) (by
   have Y:(by_+(1-by_))*rows2.length<=(by_+1)*rows2.length:=tj _ (by omega);have Q:(by_+1)*rows2.length<=2^45:=by simpa using hb
   omega) T3
 rw[Y]at O;cases O;have aj:=hy;obtain⟨a2,cap2,hyv,hcap2,U,ae,hnone2,hc2⟩:=aj;have J:∀f∈rows++rows2,f.length=z:=by
  intro f g;rcases mem_append.1 g with g|g
  ·exact h5 f g
  ·exact U f g
 have A:∀f∈rows++rows2,∀d∈f,dK d:=by
  intro f g;rcases mem_append.1 g with g|g
  ·exact h6 f g
  ·exact ae f g
 have O:oL w (cx w lev S) (.slice (some ⟨b,0,none⟩) rows.length cap) z rows:=by
  refine⟨_,cap,rfl,h4,h5,h6,(λe=>by cases e),?_⟩;rintro ad ⟨⟩ i j f d q n;obtain⟨u,L,k⟩:=h10 i j f d q n;exact⟨u,by rw[gP,Nat.zero_add,lV w b _ Q];exact L,k⟩
 by_cases m:rows.length+rows2.length<=cap
 ·obtain⟨news,ai,ah,ag,W⟩:=Tl (P:=P) (w:=w) (V:=cx w lev S) hT H (a:=some ⟨b,0,none⟩) (len:=rows.length) (cap:=cap) hy.toC m T3;have p:0+rows.length*z+news.length<=c.size:=by
   rw[ai,h3,Nat.zero_add,<-Nat.add_mul];exact tj z m
  have X:=kq (P:=P) b (rows.length*z) E news 0 c w Q (by simpa using p) ag;simp only[Nat.add_zero]at X;have C:∀j,(eJ c (rows.length*z) news)[j]?=if rows.length*z<=j/\j<rows.length*z+news.length then news[j-rows.length*z]? else c[j]?:=
   λj=>mN news c _ j (by simpa using p)
  have K:pV w lev (gA w b (eJ c (rows.length*z) news) E) lev:=pN h7;refine⟨_,gA w b (eJ c (rows.length*z) news) E,lev,lP own b (some N),lP (lP S r none) N (some (.slice (some ⟨b,0,none⟩) (rows.length+rows2.length) cap)),W _ (by simpa[gP]using X),?_,gx _ _ _,_,_,_,rfl⟩;have aa:=Z.fresh hf;refine Z.setObj (rN h Q (eo _ _ _) h9 (λj n=>?_)) K (λs hs=>gR _ _ hs) (λu L=>by rw[aa]at L;cases L) (.inl F) ?_ ?_
  ·rcases n with n|n
   ·omega
   ·rw[C,au (by omega)]
  ·intro b' s hs I R _;have:b'≠b:=by
    rintro rfl;rw[h8]at R;cases R;exact I (by simp[lp])
   exact⟨oB this _ _,rfl,gR _ _ this⟩
  ·refine .inr ⟨b,_,E,cap,by rw[gx,cR],mK (lt_of_block Q) _ _,by rw[eo];exact h3,by rw[cR];exact m,J,A,h7,gx _ _ _,by rw[eo];exact h9,?_⟩;intro i j f d q n;have ac:j<z:=by
    rw[<-J f (fO q)];exact(gU.1 n).1
   have t:d.names=[]:=(A f (fO q) d (fO n)).2;rw[C];rcases Qv q with hi'| ⟨hge,hi'⟩
   ·have af:=wS ac (gU.1 hi').1;rw[au (by omega)];obtain⟨u,B,k⟩:=h10 i j f d hi' n;exact⟨u,B,k.jc K (by rw[t];simp)⟩
   ·obtain⟨u,B,k⟩:=ah _ j f d hi' n;have hge':rows.length*z<=i*z:=tj z hge;have e1:i*z+j-rows.length*z=(i-rows.length)*z+j:=by rw[Nat.sub_mul];omega
    have af:(i-rows.length)*z+j<news.length:=(gU.1 B).1;rw[aq (by omega),e1];exact⟨u,B,k.jc K (by rw[t];simp)⟩
 ·obtain⟨M,e',cells,g1,g2,g3,g4⟩:=Xm (P:=P) (w:=w) (V:=cx w lev S) hT H O.toC hy.toC m hb ab T3
  have q:=Z.drew.MQ F hf (vs:=cells) (z:=z) (cap:=M) (rows:=rows++rows2) e' g2 (by rw[cR];exact g1) J A (by
   intro i j f d q n;obtain⟨u,L,k⟩:=g4 i j f d q n;have t:d.names=[]:=(A f (fO q) d (fO n)).2
   exact⟨u,L,aM.jc (w:=w) (w':=w.drew) (lev':=lev) k (λ_ _ h=>h) (by rw[t];simp)⟩)
  refine⟨_,_,_,_,_,g3,q,?_,_,_,_,rfl⟩;rw[gx,cR];rfl
end
end Go.Abs
namespace Go.Abs

def fH(P:Program)(e:Env)(t:TypeId)(parts:List (Nat×Operand)):List (Nat×Nat×D):=
 match eH P t with
 | .struct fs=>parts.map λx=>match fs[x.1]? with
  |some f=>(f.off,f.sz,rd e x.2)
  |none=>(0,0,.undef)
 | .arr _ z _=>parts.map λx=>(x.1*z,z,rd e x.2)
 | _=>[]
def FR(P:Program)(e:Env)(t:TypeId)(parts:List (Nat×Operand)):Prop:=
 (match eH P t with
 | .struct fs=>∀x∈parts,x.1<fs.length
 | .arr _ _ _=>True
 | _=>False)/\∃z,nw P t=some z/\qx z.length (fH P e t parts)


def FQ:D->D
 | .own _ rows=>.int .i64 rows.length
 | _=>.undef
def CC:D->Prop
 | .own _ _=>True
 | _=>False
def Yf(e:Env):D->D
 | .sl _ rows=>.int .i64 rows.length
 | .nil=>.int .i64 0
 | .emp=>.int .i64 0
 | .ref r=>FQ (e.o r)
 | .gq _ _ _ len=>.int .i64 len
 | .eC _ _ _ len _=>.int .i64 len
 | .str s=>.int .i64 s.size
 | _=>.undef
def MJ(e:Env)(t:Ty)(d:D):D:=
 match t with
 | .arr n _ _=>.int .i64 n
 | _=>Yf e d
def HA(e:Env):D->Prop
 | .sl _ _| .nil| .emp| .gq _ _ _ _| .eC _ _ _ _ _=>True
 | .ref r=>CC (e.o r)
 | _=>False
def isStr:D->Prop
 | .str _=>True
 | _=>False
def Cq(e:Env)(t:Ty)(d:D):Prop:=
 match t with
 | .slice _ _ _=>HA e d
 | .str=>isStr d
 | .arr _ _ _=>True
 | _=>False
def PD:D->D->D
 | .int k x,.int _ y=>.int k (if y>x then y else x)
 | _,_=>.undef
def PK:D->D->D
 | .int k x,.int _ y=>.int k (if y<x then y else x)
 | _,_=>.undef
def u5:List D->Prop
 | []=>True
 | .int _ _::r=>u5 r
 | _::_=>False
def OO(f:D->D->D):List D->D
 | []=>.undef
 |x::r=>r.foldl f x


def NH(e:Env)(a:Int):Option Operand->D
 |some x=>rd e x
 |none=>.int .i64 a
def SK(e:Env)(t:Ty)(x:D)(l h:Nat):D:=
 match x with
 | .sl z rows=>.sl z ((rows.take h).drop l)
 | .str s=>.str (s.extract l h)
 | .nil=>.nil
 | .emp=>.emp
 | .ref r=>match e.o r with
  | .own z _=>.gq r z l (h-l)
  | _=>.undef
 | .gq r z lo _=>.gq r z (lo+l) (h-l)
 | .eC r off z _ cap=>.eC r (off+l*z) z (h-l) (cap-l)
 | .addr r off=>match t with
  | .arr n z _=>.eC r (off+l*z) z (h-l) (n-l)
  | _=>.undef
 | _=>.undef
def FZ(e:Env)(t:Ty)(x:D):Option Nat:=
 match x,t with
 | .sl z rows,.slice z' _ _=>if z=z' then some rows.length else none
 | .str s,.str=>some s.size
 | .nil,.slice _ _ _=>some 0
 | .emp,.slice _ _ _=>some 0
 | .ref r,.slice z' _ _=>match e.o r with
  | .own z rows=>if z=z' then some rows.length else none
  | _=>none
 | .gq _ z _ len,.slice z' _ _=>if z=z' then some len else none
 | .eC _ _ z len _,.slice z' _ _=>if z=z' then some len else none
 | .addr _ _,.arr n _ _=>some n
 | _,_=>none
def WO(e:Env)(t:Ty)(x:D):Option Nat:=
 match x,t with
 | .eC _ _ z _ cap,.slice z' _ _=>if z=z' then some cap else none
 |x,t=>FZ e t x
def W6(N:Option Nat)(lo a:D)(k:Nat->Nat->Nat->Prop):Prop:=
 match N,lo,a with
 |some n,.int _ l,.int _ h=>0<=l/\l<=h/\h<=n/\k n l.toNat h.toNat
 | _,_,_=>False
def Bw(N:Option Nat):Int:=((N.getD 0:Nat):Int)
def slV(e:Env)(t:Ty)(x:D)(lo a:Option Operand):D:=
 match NH e 0 lo,NH e (Bw (FZ e t x)) a with
 | .int _ l,.int _ h=>SK e t x l.toNat h.toNat
 | _,_=>.undef
def Y8(e:Env)(t:Ty)(x:D)(lo a:Option Operand):Prop:=
 W6 (WO e t x) (NH e 0 lo) (NH e (Bw (FZ e t x)) a) λ_ _ _=>True
def X5:Ty->Prop
 | .slice _ _ _=>True
 | _=>False
def acO:D->Prop
 | .sl _ _| .nil| .emp| .ref _| .gq _ _ _ _| .eC _ _ _ _ _=>True
 | _=>False
def isZero:D->Prop
 | .int _ n=>n=0
 | _=>False

def gB(P:Program)(e:Env):Op->D
 | .move x=>rd e x
 | .assign x=>rd e x
 | .pick c a b=>match rd e c with
  | .bool p=>if p then rd e a else rd e b
  | _=>.undef
 | .binOp op _ x y _=>zX op (rd e x) (rd e y)
 | .unOp op _ x=>zq op (rd e x)
 | .convert s d x=>Ky (eH P s) (eH P d) (rd e x)
 | .fieldAddr t x f=>match eH P t with
  | .struct fs=>WH fs f (rd e x)
  | _=>.undef
 | .field t x f=>match eH P t with
  | .struct fs=>U3 fs f (rd e x)
  | _=>.undef
 | .indexAddr t x i=>U6 e (eH P t) (rd e x) (rd e i)
 | .index t x i=>ixV (eH P t) (rd e x) (rd e i)
 | .load t a=>match iF P t with
  |some l=>ZG e l (rd e a)
  |none=>.undef
 | .nilCheck x=>rd e x
 | .extract x i=>match rd e x with
  | .bI ds=>ds.getD i .undef
  | _=>.undef
 | .build t parts=>match nw P t with
  |some z=>.agg (nN z (fH P e t parts.toList))
  |none=>.undef
 | .slice t x lo hi none=>slV e (eH P t) (rd e x) lo hi
 | .slice _ _ _ _ (some _)=>.emp
 | .makeFunc (.func f) _ caps=>.fn f (caps.toList.map (rd e))
 | .call c=>match c.callee,c.args.toList,c.argTypes.toList with
  | .builtin .len,[x],[t]=>MJ e (eH P t) (rd e x)
  | .builtin .max,l,_=>OO PD (l.map (rd e))
  | .builtin .min,l,_=>OO PK (l.map (rd e))
  | _,_,_=>.undef
 | _=>.undef

def Yr:D->Prop
 | .addr _ _| .cw _ _ _ _| .bE _| .fn _ _=>True
 | _=>False
def dO(P:Program)(e:Env):Op->Prop
 | .move _=>True
 | .assign _=>True
 | .pick c _ _=>match rd e c with
  | .bool _=>True
  | _=>False
 | .binOp op t x y _=>yl P (isConst x||isConst y) op t (rd e x) (rd e y)
 | .unOp op _ x=>vq op (rd e x)
 | .convert s d x=>GF (eH P s) (eH P d) (rd e x)
 | .fieldAddr t x f=>match eH P t with
  | .struct fs=>U0 fs f (rd e x)
  | _=>False
 | .field t x f=>match eH P t with
  | .struct fs=>KR fs f (rd e x)
  | _=>False
 | .indexAddr t x i=>O2 e (eH P t) (rd e x) (rd e i)
 | .index t x i=>Pe (eH P t) (rd e x) (rd e i)
 | .load t a=>match iF P t with
  |some l=>MG e l (rd e a)
  |none=>False
 | .nilCheck x=>Yr (rd e x)
 | .extract x i=>match rd e x with
  | .bI ds=>i<ds.length
  | _=>False
 | .build t parts=>FR P e t parts.toList
 | .slice t x lo hi none=>Y8 e (eH P t) (rd e x) lo hi
 | .slice t x none (some h) (some m)=>X5 (eH P t)/\acO (rd e x)/\isZero (rd e h)/\isZero (rd e m)
 | .makeFunc (.func _) first _=>first = #[]
 | .call c=>match c.callee,c.args.toList,c.argTypes.toList with
  | .builtin .len,[x],[t]=>Cq e (eH P t) (rd e x)
  | .builtin .max,l,_=>l≠[]/\u5 (l.map (rd e))
  | .builtin .min,l,_=>l≠[]/\u5 (l.map (rd e))
  | _,_,_=>False
 | _=>False

section
variable{P:Program}{w0 w w':World}{l0:Nat->Option Nat}{G:Nat->Option (Nat×Nat)}{S0:Nat->Option Value}{lev lev' own own':Nat->Option Nat}{S S':Nat->Option Value}{env env':Env}{tm tm':Nat->Value}

theorem Inv.BJ{tmps:Array Value}(h:Inv w0 l0 G S0 w lev own S env (ni tmps))(a:Act)(b:a.tmps=tmps)(x:Operand):aM (cx w lev S) (a.eval x) (rd env x):=by
 subst b;cases x with
 |tmp t=>exact h.pK t
 |const v=>exact Qs v
 |global g=>exact .undef _
 |func f=>exact .fn f #[] [] rfl (by intro i v d c;simp at c)
theorem IK{V:Cx}(a:Nat->Option (Nat×Nat)):∀(ps:List (Nat×Value))(qs:List (Nat×Nat×D))(cs:Array Value)(ds:List D),ps.length=qs.length->cs.size=ds.length ->
  (∀(i:Nat) v d,cs[i]?=some v->ds[i]?=some d->aM V v d) ->
  (∀(k:Nat) p q,ps[k]?=some p->qs[k]?=some q->a p.1=some (q.1,q.2.1)/\aM V p.2 q.2.2)->qx ds.length qs ->
  ∃b,Instr.fill a cs ps=some b/\b.size=(nN ds qs).length/\∀(i:Nat) v d,b[i]?=some v->(nN ds qs)[i]?=some d->aM V v d
 | [],[],cs,ds,_,hs,hr,_,_=>⟨cs,rfl,hs,hr⟩
 | [],_::_,_,_,h,_,_,_,_=>by simp at h
 | _::_,[],_,_,h,_,_,_,_=>by simp at h
 | (i,v)::ps,(off,sz,d)::qs,cs,ds,hl,hs,hr,hp,hok=>by
  obtain⟨h1,h2,y,z⟩:=hok;obtain⟨j,m⟩:=hp 0 (i,v) (off,sz,d) rfl rfl;simp only at j m;obtain⟨c1,c2,c3⟩:=uJ m y;have C:(v.cells.zipIdx.foldl (λcs (x:Value×Nat)=>cs.setIfInBounds (off+x.2) x.1) cs)=eJ cs off v.cells.toList:=by
   rw[<-Array.foldl_toList,Array.toList_zipIdx];have:∀(l:List Value)(k:Nat)(c:Array Value),(l.zipIdx k).foldl (λcs (x:Value×Nat)=>cs.setIfInBounds (off+x.2) x.1) c=eJ c (off+k) l:=by
    intro l;induction l with
    |nil=>intro k c;rfl
    |cons x l ih=>intro k c;simp only[List.zipIdx_cons,List.foldl_cons,eJ,ih];rw[Nat.add_assoc]
   exact this _ 0 cs
  have f:off+v.cells.toList.length<=cs.size:=by simp;omega
  have e:(nR ds off d.cells).length=ds.length:=rO (by omega);obtain⟨b,s,e2,t⟩:=IK a ps qs (eJ cs off v.cells.toList) (nR ds off d.cells) (by simpa using hl) (by rw[eo,e];exact hs)
   (by
    intro k u x n o;rw[mN _ _ _ _ f]at n;rw[Dh (by omega)]at o;have g:v.cells.toList.length=d.cells.length:=by simpa using c1
    by_cases r:off<=k/\k<off+d.cells.length
    ·rw[aq (by rw[g];exact r)]at n;rw[aq r]at o;exact c3 _ u x (by simpa using n) o
    ·rw[au (by rw[g];exact r)]at n;rw[au r]at o
     exact hr k u x n o)
   (λk p q A B=>hp (k+1) p q A B) (by rw[e];exact z)
  refine⟨b,?_,e2,t⟩;unfold Instr.fill;simp only[j];rw[au (by simp;omega)];rw[C];exact s

def abl{a:Array Field}{l:List FT}(c:qS P a.toList=some l)(w:World) :
  ∃ps:Array (Nat×Nat),(a.mapM (λf=>do pure (f.offset,<-sizeOf f.type):Field->Sem (Nat×Nat))).run P w=.ok ps w/\∀i:Nat,ps[i]?=(l[i]?).map λf=>(f.off,f.sz):=by
 have key:∀(r:List Field)(l:List FT)(acc:Array (Nat×Nat)),qS P r=some l ->
   (r.foldlM (λ(acc:Array (Nat×Nat)) f=>do pure (acc.push (f.offset,<-sizeOf f.type))) acc:Sem (Array (Nat×Nat))).run P w=.ok (acc++(l.map λf=>(f.off,f.sz)).toArray) w:=by
  intro r;induction r with
  |nil =>
   intro l acc h;simp only[qS,oF]at h;subst h;simp[Sem.run,pure]
  |cons f r ih =>
   intro l acc h;unfold qS at h;split at h<;>try(cases h;done)
   rename_i ly b d e;split at h
   ·cases h
   ·cases h;simp only[List.foldlM_cons,Sem.run_bind,cY d];have:=ih b (acc.push (f.offset,ly.sz)) e;simp only[Result.andThen_ok,pure,Sem.run]at this |-;rw[this];simp
 refine⟨(l.map λf=>(f.off,f.sz)).toArray,?_,λi=>by simp⟩;have:=key a.toList l #[] c;rw[Array.mapM_eq_foldlM];rw[<-Array.foldlM_toList];simpa using this

end
end Go.Abs
namespace Go.Abs

variable{k k':IntKind}{N cap b z:Nat}{lo hi:Option Operand}{l h:Int}{m9:Operand->Value}{e:Env}{V:Cx}{ea:Bool}{t:TypeId}{d:D}{x:Value}
section
variable{P:Program}{w0 w w':World}{l0:Nat->Option Nat}{G:Nat->Option (Nat×Nat)}{S0:Nat->Option Value}{lev lev' own own':Nat->Option Nat}{S S':Nat->Option Value}{env env':Env}{tm tm':Nat->Value}

def kK{s:Sem Value}{u:Value}{w':World}(h:s.run P w=.ok u w'):(do pure (Next.value (<-s)):Sem Next).run P w=.ok (.value u) w':=by
 simp[Sem.run_bind,h,Sem.run,pure]
def ac2{α:Type}{a:Array α}{x:α}(h:a.toList=[x]):a = #[x]:=Array.ext' (by simpa using h)

theorem T9{V:Cx}:∀(vs:List Value)(ds:List D)(x:Value)(d:D),aM V x d->(∃k n,d=.int k n)->vs.length=ds.length->(∀(i:Nat) v e,vs[i]?=some v->ds[i]?=some e->aM V v e)->u5 ds ->
  ∃u,(vs.foldlM Builtin.max2 x).run P w=.ok u w/\aM V u (ds.foldl PD d)/\∃k n,ds.foldl PD d=.int k n
 | [],[],x,d,hx,a,_,_,_=>⟨x,rfl,hx,a⟩
 | [],_::_,_,_,_,_,h,_,_=>by simp at h
 | _::_,[],_,_,_,_,h,_,_=>by simp at h
 |v::vs,e::ds,x,d,hx,⟨k,n,a⟩,hl,hr,hi=>by
  cases e<;>try exact hi.elim
  rename_i k' m;subst a;have c:=hr 0 v _ rfl rfl;have f:=hx.eU;have e2:=c.eU;subst f;subst e2;obtain⟨u,g,j,o⟩:=T9 vs ds (.int k (if m>n then m else n)) (.int k (if m>n then m else n)) (.int _ _) ⟨_,_,rfl⟩ (by simpa using hl) (λi v e c p=>hr (i+1) v e c p) hi;refine⟨u,?_,j,o⟩;simp only[List.foldlM_cons,Sem.run_bind,Builtin.max2];exact g
theorem T'{V:Cx}:∀(vs:List Value)(ds:List D)(x:Value)(d:D),aM V x d->(∃k n,d=.int k n)->vs.length=ds.length->(∀(i:Nat) v e,vs[i]?=some v->ds[i]?=some e->aM V v e)->u5 ds ->
  ∃u,(vs.foldlM Builtin.min2 x).run P w=.ok u w/\aM V u (ds.foldl PK d)/\∃k n,ds.foldl PK d=.int k n
 | [],[],x,d,hx,a,_,_,_=>⟨x,rfl,hx,a⟩
 | [],_::_,_,_,_,_,h,_,_=>by simp at h
 | _::_,[],_,_,_,_,h,_,_=>by simp at h
 |v::vs,e::ds,x,d,hx,⟨k,n,a⟩,hl,hr,hi=>by
  cases e<;>try exact hi.elim
  rename_i k' m;subst a;have c:=hr 0 v _ rfl rfl;have f:=hx.eU;have e2:=c.eU;subst f;subst e2;obtain⟨u,g,j,o⟩:=T' vs ds (.int k (if m<n then m else n)) (.int k (if m<n then m else n)) (.int _ _) ⟨_,_,rfl⟩ (by simpa using hl) (λi v e c p=>hr (i+1) v e c p) hi;refine⟨u,?_,j,o⟩;simp only[List.foldlM_cons,Sem.run_bind,Builtin.min2];exact g


def run_sliceBound{v:Value}{i:Int}(f:v=.int k i)(a:0<=i)(c:i<=N)(code:BoundsCode)(w:World):(Instr.sliceBound v N code).run P w=.ok i.toNat w:=by
 subst f;simp only[Instr.sliceBound,Sem.run_bind,asIntOf,pure,Sem.run,Result.andThen_ok];rw[aq ⟨a,c⟩];rfl
def Br(j:∀o,aM V (m9 o) (rd e o))(hN:N<=cap)(f:NH e 0 lo=.int k l)(g:NH e N hi=.int k' h)(m:0<=l)(hlh:l<=h)(hh:h<=cap)(a:Bool)(w:World) :
  (Instr.sliceBounds a N cap (lo.map m9) (hi.map m9) none).run P w=.ok (l.toNat,h.toNat,cap) w:=by
 have c:∀code,(match hi.map m9 with|some v=>Instr.sliceBound v cap code|none=>pure N:Sem Nat).run P w=.ok h.toNat w:=by
  intro code;cases hi with
  |none =>
   simp only[NH,D.int.injEq]at g;obtain⟨_,rfl⟩:=g;rfl
  |some o =>
   simp only[NH]at g;have:=j o;rw[g]at this;exact run_sliceBound this.eU (by omega) (by omega) code w
 have i:∀code,(match lo.map m9 with|some v=>Instr.sliceBound v h.toNat code|none=>pure 0:Sem Nat).run P w=.ok l.toNat w:=by
  intro code;cases lo with
  |none =>
   simp only[NH,D.int.injEq]at f;obtain⟨_,rfl⟩:=f;rfl
  |some o =>
   simp only[NH]at f;have:=j o;rw[f]at this;exact run_sliceBound this.eU m (by omega) code w
 have hh1:=c .sliceAcap;have hh2:=c .sliceAlen;have hl1:=i .sliceB;cases a<;>cases hi<;>cases lo<;>simp_all[Instr.sliceBounds,Sem.run_bind,Sem.run,pure]

def kn(q:∀o,aM V (m9 o) (rd e o))(n:N<=cap)(j:NH e 0 lo=.int k l)(m:NH e N hi=.int k' h)(i:0<=l)(g:l<=h)(p:h<=cap)
  (r:eH P t=.slice z b ea) (a:Option Addr) (w:World) :
  (Instr.sliceAt t (.slice a N cap) (lo.map m9) (hi.map m9) none).run P w=.ok (.slice (if cap=l.toNat then a else a.map (·.add (l.toNat*z))) (h.toNat-l.toNat) (cap-l.toNat)) w:=by
 obtain⟨el,inf,s,c,hin,hb,hz,_⟩:=fR r;have f:=Br (P:=P) q n j m i g p true w;simp[Instr.sliceAt,Sem.run_bind,bO s,Instr.slice,f,cY c,Sem.run,pure]
def FA(p:∀o,aM V (m9 o) (rd e o))(j:NH e 0 lo=.int k l)(m:NH e N hi=.int k' h)(i:0<=l)(g:l<=h)(n:h<=N)
  (q:eH P t=.arr N z ea) (a:Addr) (w:World) :
  (Instr.sliceAt t (.pointer (some a)) (lo.map m9) (hi.map m9) none).run P w=.ok (.slice (some (if N=l.toNat then a else a.add (l.toNat*z))) (h.toNat-l.toNat) (N-l.toNat)) w:=by
 obtain⟨el,r,c,hz⟩:=C7 q;have f:=Br (P:=P) p (fS N) j m i g n false w;simp[Instr.sliceAt,Sem.run_bind,bO r,Instr.sureAddr,f,cY c,Sem.run,pure]

def V7(M:∀r z rows,env.o r=.own z rows->∃a cap,V.S r=some (.slice a rows.length cap)/\rows.length<=cap/\(a=none->rows=[]/\cap=0))(F:aM V x d)(q:∀o,aM V (m9 o) (rd env o))(h:Y8 env (eH P t) d lo hi)(w:World) :
  ∃u,(Instr.sliceAt t x (lo.map m9) (hi.map m9) none).run P w=.ok u w/\aM V u (slV env (eH P t) d lo hi):=by
 rcases Classical.em (∃r off z len cap,d=.eC r off z len cap)with⟨r,off,z,len,bcap,rfl⟩|hnb
 ·unfold Y8 W6 at h;split at h<;>try exact h.elim
  rename_i N k l k' C f A g;obtain⟨B,n,m,_⟩:=h;cases c:eH P t<;>rw[c]at f g<;>simp only[WO]at f<;>(try(cases f;done));split at f<;>try(cases f;done)
  rename_i J ea I;cases f;subst I;simp only[FZ,if_true]at g;have v:Bw (some len)=(len:Int):=rfl;rw[v]at g;obtain⟨a,a',K,D,rfl,h3,R,h5,rfl,h6⟩:=F.j0;refine⟨_,kn q R A g B n m c _ w,?_⟩;unfold slV;rw[A];simp only[FZ,if_true,v,g,SK];refine .eC r _ z _ _ a _ D ?_ (by omega);intro H;rw[h6 (by omega),au (by omega)];simp only[Option.map_some,add_add]
 have T:WO env (eH P t) d=FZ env (eH P t) d:=by
  cases d<;>first|rfl|exact(hnb ⟨_,_,_,_,_,rfl⟩).elim
 unfold Y8 W6 at h;rw[T]at h;split at h<;>try exact h.elim
 rename_i N k l k' C f A g;obtain⟨B,n,m,_⟩:=h;have v:Bw (some N)=(N:Int):=rfl;rw[f,v]at g;unfold slV;rw[f,v,A,g];simp only;cases d<;>simp only[FZ]at f<;>(try(cases f;done))
 ·-- string
  rename_i s;cases c:eH P t<;>rw[c]at f<;>simp only at f<;>(try(cases f;done));cases f;rw[F.ru];refine⟨.string (s.extract l.toNat C.toNat),?_,.str _⟩;have U:=Br (P:=P) q (fS s.size) A g B n m false w;simp[Instr.sliceAt,Sem.run_bind,bO (C8 c),Instr.slice,U,Sem.run,pure]
 ·-- nil
  cases c:eH P t<;>rw[c]at f<;>simp only at f<;>(try(cases f;done));cases f;cases F;refine⟨_,kn q (fS 0) A g B n m c _ w,?_⟩;have:l.toNat=0/\C.toNat=0:=by omega
  rw[this.1,this.2];exact .nil
 ·cases c:eH P t<;>rw[c]at f<;>simp only at f<;>(try(cases f;done));cases f;cases F;refine⟨_,kn q (fS 0) A g B n m c _ w,?_⟩;have:l.toNat=0/\C.toNat=0:=by omega
  rw[this.1,this.2];exact .emp _
 ·-- rows that stay
  rename_i z rows;cases c:eH P t<;>rw[c]at f<;>simp only at f<;>(try(cases f;done));split at f<;>try(cases f;done)
  rename_i J ea I;cases f;subst I;obtain⟨a,cap,rfl,y,Y,hk,p,hc⟩:=F.Bx;refine⟨_,kn q y A g B n (by omega) c _ w,?_⟩;simp only[SK];have E:((rows.take C.toNat).drop l.toNat).length=C.toNat-l.toNat:=by simp;omega
  cases a with
  |none =>
   obtain⟨rfl,rfl⟩:=p rfl;have:l.toNat=0/\C.toNat=0:=by simp at m;omega
   rw[this.1,this.2];exact .slnil _
  |some ad =>
   rw[<-E];by_cases Q:cap=l.toNat
   ·have:C.toNat=l.toNat:=by omega
    rw[aq Q,this];have e0:(rows.take l.toNat).drop l.toNat=[]:=by simp
    rw[e0];exact l8 (rows:=[]) (by simp) (by simp) (by simp) (by simp)
   ·rw[au Q];refine l8 (by rw[E];omega) (λr q=>Y r (List.mem_of_mem_take (List.mem_of_mem_drop q))) (λr q=>hk r (List.mem_of_mem_take (List.mem_of_mem_drop q))) ?_;intro i j r d hi hj;rw[List.getElem?_drop]at hi;have W:rows[l.toNat+i]?=some r:=by
     have X:l.toNat+i<C.toNat:=by
      have:=(gU.1 hi).1;simp at this;omega
     rwa[List.getElem?_take_of_lt X]at hi
    obtain⟨u,aa,Z⟩:=hc ad rfl _ j r d W hj;refine⟨u,?_,Z⟩;rw[add_add,show l.toNat*z+(i*z+j)=(l.toNat+i)*z+j by rw[Nat.add_mul];omega];exact aa
 ·-- of the frame's own
  rename_i r;cases c:eH P t<;>rw[c]at f<;>simp only at f<;>(try(cases f;done));split at f<;>try(cases f;done)
  rename_i z' J ea z rows ho;split at f<;>try(cases f;done)
  rename_i I;cases f;subst I;obtain⟨a,cap,D,y,p⟩:=M r z rows ho;obtain⟨O,_⟩:=F.qY;rw[D]at O;cases O;refine⟨_,kn q y A g B n (by omega) c _ w,?_⟩;simp only[SK,ho]
  refine .gq r z _ _ a _ _ cap _ D ?_ (by omega) (λe=>by
   have:a=none:=by revert e;split<;>simp
   rw[(p this).2];omega)
  intro H;cases a with
  |none=>rw[(p rfl).1]at m;simp at m;omega
  |some b=>exact⟨b,rfl,by rw[au (by omega)];rfl⟩
 ·-- a pointer to an array
  rename_i r off;cases c:eH P t<;>rw[c]at f<;>simp only at f<;>(try(cases f;done));cases f;obtain⟨a,D,rfl⟩:=F.ld;refine⟨_,FA q A g B n m c _ w,?_⟩;simp only[SK,c];refine .eC r _ _ _ _ a _ D ?_ (by omega);intro H;rw[au (by omega),add_add]
 ·rename_i r z lo' len;cases c:eH P t<;>rw[c]at f<;>simp only at f<;>(try(cases f;done));split at f<;>try(cases f;done)
  rename_i I;cases f;subst I;obtain⟨a,a',L,cap,K,D,rfl,h3,R,h5⟩:=F.o8;refine⟨_,kn q R A g B n (by omega) c _ w,?_⟩;simp only[SK]
  refine .gq r z _ _ a _ _ cap _ D ?_ (by omega) (λe=>by
   have:a'=none:=by revert e;split<;>simp
   rw[h5 this];omega)
  intro H;obtain⟨b,rfl,rfl⟩:=h3 (by omega);refine⟨b,rfl,?_⟩;rw[au (by omega)];simp only[Option.map_some,add_add,Nat.add_mul]
 ·exact(hnb ⟨_,_,_,_,_,rfl⟩).elim

def abD(p:∀r z rows,env.o r=.own z rows->∃a cap,V.S r=some (.slice a rows.length cap)){ty:TypeId}(g:aM V x d)(h:Cq env (eH P t) d) :
  ∃u,(Builtin.len_ #[t] ty #[x]).run P w=.ok u w/\aM V u (MJ env (eH P t) d):=by
 cases f:eH P t<;>rw[f]at h<;>try(simp only[Cq]at h;done)
 case str =>
  cases d<;>simp only[Cq,isStr]at h;rw[g.ru];exact⟨.int .i64 _,by simp[Builtin.len_,Sem.run_bind,bO (C8 f),goInt,Sem.run,pure],.int _ _⟩
 case slice z by_ ea =>
  obtain⟨e,i,y,_⟩:=fR f;have j:∀a n c,x=.slice a n c->MJ env (.slice z by_ ea) d=.int .i64 n->∃u,(Builtin.len_ #[t] ty #[x]).run P w=.ok u w/\aM V u (MJ env (.slice z by_ ea) d):=by
   rintro a n c rfl e;rw[e];exact⟨.int .i64 n,by simp[Builtin.len_,Sem.run_bind,bO y,goInt,Sem.run,pure],.int _ _⟩
  cases d<;>simp only[Cq,HA]at h
  ·cases g;exact j _ _ _ rfl rfl
  ·cases g;exact j _ _ _ rfl rfl
  ·obtain⟨a,cap,rfl,_⟩:=g.Bx;exact j _ _ _ rfl rfl
  ·rename_i r;cases v:env.o r<;>rw[v]at h<;>simp only[CC]at h;rename_i E rows;obtain⟨a,cap,s⟩:=p r E rows v;obtain⟨q,_⟩:=g.qY;rw[s]at q;cases q;exact j _ _ _ rfl (by simp[MJ,Yf,v,FQ])
  ·obtain⟨a,A,L,cap,m,s,rfl,B,C,D⟩:=g.o8;exact j _ _ _ rfl rfl
  ·obtain⟨a,A,m,s,rfl,B,C,D⟩:=g.j0;exact j _ _ _ rfl rfl
 case arr n z ea =>
  obtain⟨e,y,_⟩:=C7 f;exact⟨.int .i64 n,by simp[Builtin.len_,Sem.run_bind,bO y,goInt,Sem.run,pure],.int _ _⟩
end
end Go.Abs
namespace Go.Abs
open List

variable{b:Bool}{c:Addr}{t:TypeId}{a:Nat}
section
variable{P:Program}{w0 w w':World}{l0:Nat->Option Nat}{G:Nat->Option (Nat×Nat)}{S0:Nat->Option Value}{lev lev' own own':Nat->Option Nat}{S S':Nat->Option Value}{env env':Env}{tm tm':Nat->Value}

def ue{V:Cx}{z:Nat}(j:eH P t=.slice z a b){len cap:Nat}{i:Value}{k:IntKind}{n:Int}(g:aM V i (.int k n))(d:0<=n)(f:n<len) :
  (Instr.indexAt t (.slice (some c) len cap) i).run P w=.ok (.pointer (some (c.add (n.toNat*z)))) w:=by
 obtain⟨e,inf,l,h,hin,hb,hz,_⟩:=fR j;rw[g.eU];simp[Instr.indexAt,Sem.run_bind,asIntOf,bO l,d,f,cY h,Sem.run,pure]

def X9(h:Inv w0 l0 G S0 w lev own S env tm){l:EX}(s:iF P t=some l){x:Value}{d:D}(y:aM (cx w lev S) x d)(ok:MG env l d) :
  ∃u,(Instr.loadAt t x).run P w=.ok u w/\aM (cx w lev S) u (ZG env l d):=by
 cases d<;>simp only[MG]at ok
 ·rename_i cs;obtain⟨e,p,g⟩:=ok;exact NC (λ_ _=>rM) s y e p g
 ·rename_i r off;cases f:env.o r<;>rw[f]at ok<;>simp only[TJ]at ok;rename_i cs;obtain⟨e,p,g⟩:=ok;obtain⟨a,q,rfl⟩:=y.ld;have:=CU (P:=P) (w:=w) (V:=cx w lev S) s (a:=a) (h.Ku f q) e p g;simpa[ZG,f,ldB]using this
 ·rename_i r z i k;cases f:env.o r<;>rw[f]at ok<;>simp only[TK]at ok;rename_i E rows;obtain⟨rfl,e,p,g,A⟩:=ok;obtain⟨a,len,cap,q,rfl⟩:=y.mV;obtain⟨a',cap',m,_,hpm,v,_,B⟩:=h.CD f;simp only[cx]at q;rw[q]at m;cases m;have n:rows.getD i []=rows[i]:=by simp[getD,e]
  have hz:=v _ (dS e)
  have:=CU (P:=P) (w:=w) (V:=cx w lev S) s (a:=a.add (i*E)) (cs:=rows[i]) (o:=k) (λj d C=>by
   rw[add_add]
   exact B a rfl i j _ d (fj e) C) (by omega) g A
  rw[add_add]at this;simp only[ZG,f,ldW];rw[n];exact this

def pure_run{a:Act}(h:Inv w0 l0 G S0 w lev own S env (ni a.tmps))(o:Oper)(ok:dO P env o.op) :
  ∃u,(execOp a.eval o).run P w=.ok (.value u) w/\aM (cx w lev S) u (gB P env o.op):=by
 have g:∀x,aM (cx w lev S) (a.eval x) (rd env x):=λx=>h.BJ a rfl x;have hV:∀F v,vis w lev F=some v->w.cell? F=some v:=λF v=>rM;have Z:∀r z rows,env.o r=.own z rows->∃a cap,S r=some (.slice a rows.length cap)/\rows.length<=cap/\(a=none->rows=[]/\cap=0):=by
  intro r z rows ho;obtain⟨a,cap,I,h2,_,_,h3,_⟩:=h.CD ho;exact⟨a,cap,I,h2,h3⟩
 cases ho:o.op<;>rw[ho]at ok<;>(try exact ok.elim)<;>simp only[execOp,ho]
 case move x=>exact⟨a.eval x,rfl,g x⟩
 case assign x=>exact⟨a.eval x,rfl,g x⟩
 case pick c x y =>
  simp only[dO]at ok;have hb:=g c;cases hc:rd env c<;>rw[hc]at ok hb<;>try exact ok.elim
  rename_i p;have B:=hb.mo;refine⟨if p then a.eval x else a.eval y,?_,?_⟩
  ·simp[B,asBool,Sem.run_bind,Sem.run,pure]
  ·simp only[gB,hc];cases p
   ·exact g y
   ·exact g x
 case binOp op t x y yt =>
  simp only[dO]at ok;obtain⟨u,D,E⟩:=SF (g x) (g y) ok w;have hg:=NB (g x) (g y) ok w;exact⟨u,kK (by simp[Sem.run_bind,hg,D]),E⟩
 case unOp op t x =>
  simp only[dO]at ok;obtain⟨u,D,E⟩:=V8 (g x) ok w;exact⟨u,kK D,E⟩
 case convert s d x =>
  simp only[dO]at ok;obtain⟨u,D,E⟩:=Qy (g x) ok w;exact⟨u,kK D,E⟩
 case fieldAddr t x f =>
  simp only[dO]at ok;simp only[gB];cases J:eH P t<;>rw[J]at ok<;>try exact ok.elim
  rename_i fs;simp only at ok |-;have R:=g x;cases M:rd env x<;>rw[M]at ok R<;>try exact ok.elim
  ·rename_i cs;obtain⟨u,D,E⟩:=abB (w:=w) J ok R;exact⟨u,kK D,E⟩
  ·rename_i r off;obtain⟨F,T,B⟩:=R.ld;rw[B];refine⟨_,kK (zi J ok),?_⟩;rw[add_add];exact .addr r _ F T
  ·rename_i r z i k;obtain⟨F,len,cap,T,B⟩:=R.mV;rw[B];refine⟨_,kK (zi J ok),?_⟩;rw[add_add,Nat.add_assoc];exact .cw r z i _ F len cap T
 case field t x f =>
  simp only[dO]at ok;simp only[gB];cases J:eH P t<;>rw[J]at ok<;>try exact ok.elim
  rename_i fs;simp only at ok |-;have R:=g x;cases M:rd env x<;>rw[M]at ok R<;>try exact ok.elim
  obtain⟨u,D,E⟩:=V5 (w:=w) J R ok;exact⟨u,kK D,E⟩
 case indexAddr t x i =>
  simp only[dO]at ok;simp only[gB];have r1:=g x;have r2:=g i;cases M:rd env x<;>rw[M]at ok r1<;>(try(simp only[O2]at ok;done))<;>cases K:rd env i<;>rw[K]at ok r2<;>(try(simp only[O2]at ok;done))<;>simp only[O2]at ok
  ·rename_i z rows k n;obtain⟨J,Q,I⟩:=ok;cases A:eH P t<;>rw[A]at J<;>try exact J.elim
   have ab:z=_:=J;subst ab;obtain⟨u,D,E⟩:=run_indexAt_slice (w:=w) A r1 r2 Q I;exact⟨u,kK D,E⟩
  ·rename_i cs k n;cases A:eH P t<;>rw[A]at ok<;>try exact ok.elim
   rename_i m z ea;obtain⟨Q,I⟩:=ok;obtain⟨F,B,hn,hc⟩:=r1.qw;rw[B];refine⟨_,kK (sn A r2 Q I),?_⟩;simp only[U6];refine n9 (λd hd=>hn d (mem_of_mem_drop hd)) ?_;intro j d hj;rw[getElem?_drop]at hj;rw[add_add];exact hc _ d hj
  ·rename_i r k n;obtain⟨Q,ok⟩:=ok;cases A:eH P t<;>rw[A]at ok<;>try exact ok.elim
   rename_i z by_ ea;simp only at ok;cases aq:env.o r<;>rw[aq]at ok<;>simp only[TY]at ok;rename_i z' rows;obtain⟨rfl,I⟩:=ok;obtain⟨F,cap,T,_,ag⟩:=Z r z' rows aq;obtain⟨ac,_⟩:=r1.qY;simp only[cx]at ac;rw[T]at ac;have B:a.eval x=.slice F rows.length cap:=(Option.some.inj ac).symm;cases F with
   |none=>rw[(ag rfl).1]at I;simp at I;omega
   |some F =>
    rw[B];refine⟨_,kK (ue A r2 Q I),?_⟩;simp only[U6];exact .cw r z' n.toNat 0 F _ _ T
  ·rename_i r off k n;cases A:eH P t<;>rw[A]at ok<;>try exact ok.elim
   rename_i m z ea;obtain⟨Q,I⟩:=ok;obtain⟨F,T,B⟩:=r1.ld;rw[B];refine⟨_,kK (sn A r2 Q I),?_⟩;simp only[U6];rw[add_add];exact .addr r _ F T
  ·rename_i r z j k' k n;cases A:eH P t<;>rw[A]at ok<;>try exact ok.elim
   rename_i m z' ea;obtain⟨Q,I⟩:=ok;obtain⟨F,len,cap,T,B⟩:=r1.mV;rw[B];refine⟨_,kK (sn A r2 Q I),?_⟩;simp only[U6];rw[add_add,Nat.add_assoc];exact .cw r z j _ F len cap T
  ·rename_i r z lo len k n;obtain⟨J,Q,I⟩:=ok;cases A:eH P t<;>rw[A]at J<;>try exact J.elim
   have ab:z=_:=J;subst ab;obtain⟨F,a',L,cap,an,T,B,h3,h4,_⟩:=r1.o8;obtain⟨b,rfl,rfl⟩:=h3 (by omega);rw[B];refine⟨_,kK (ue A r2 Q I),?_⟩;simp only[U6];rw[add_add,<-Nat.add_mul];have:=aM.cw (C:=cx w lev S) r z (lo+n.toNat) 0 b _ _ T;simpa using this
  ·rename_i r off z len bcap k n;obtain⟨J,Q,I⟩:=ok;cases A:eH P t<;>rw[A]at J<;>try exact J.elim
   have ab:z=_:=J;subst ab;obtain⟨F,a',an,T,B,h3,h4,_⟩:=r1.j0;rw[h3 (by omega)]at B;rw[B];refine⟨_,kK (ue A r2 Q I),?_⟩;simp only[U6];rw[add_add];exact .addr r _ F T
 case index t x i =>
  simp only[dO]at ok;simp only[gB]
  suffices hs:∃u,(Instr.index t (a.eval x) (a.eval i)).run P w=.ok u w/\aM (cx w lev S) u (ixV (eH P t) (rd env x) (rd env i))by
   obtain⟨u,D,E⟩:=hs;exact⟨u,kK D,E⟩
  have r1:=g x;have r2:=g i;cases M:rd env x<;>rw[M]at ok r1<;>(try(simp only[Pe]at ok;done))<;>cases K:rd env i<;>rw[K]at ok r2<;>(try(simp only[Pe]at ok;done))
  ·obtain⟨J,Q,I⟩:=ok;exact J' (w:=w) J r1 r2 Q I
  ·rename_i cs k n;simp only[Pe]at ok;cases A:eH P t<;>rw[A]at ok<;>try exact ok.elim
   obtain⟨Q,I,h2⟩:=ok;exact J9 (w:=w) A r1 r2 Q I h2
 case load t x =>
  simp only[dO]at ok;simp only[gB];cases X:iF P t with
  |none=>rw[X]at ok;exact ok.elim
  |some l =>
   rw[X]at ok;obtain⟨u,D,E⟩:=X9 h X (g x) ok;exact⟨u,kK D,E⟩
 case nilCheck x =>
  simp only[dO]at ok;simp only[gB];have D:=g x;cases M:rd env x<;>rw[M]at ok D<;>try exact ok.elim
  ·obtain⟨vs,B,_⟩:=D.AZ;rw[B]at D |-;exact⟨_,rfl,D⟩
  ·obtain⟨F,B,_⟩:=D.qw;rw[B]at D |-;exact⟨_,rfl,D⟩
  ·obtain⟨F,_,B⟩:=D.ld;rw[B]at D |-;exact⟨_,rfl,D⟩
  ·obtain⟨F,_,_,_,B⟩:=D.mV;rw[B]at D |-;exact⟨_,rfl,D⟩
 case extract x i =>
  simp only[dO]at ok;simp only[gB];have r1:=g x;cases M:rd env x<;>rw[M]at ok r1<;>try exact ok.elim
  rename_i ds;obtain⟨vs,B,hs,hc⟩:=r1.C6;simp only at ok |-;have aa:i<vs.size:=by omega
  have ay:(Instr.extract (a.eval x) i).run P w=.ok vs[i] w:=by simp[B,Instr.extract,aa,Sem.run,pure]
  refine⟨vs[i],kK ay,?_⟩;have hd:ds.getD i .undef=ds[i]:=by simp[getD,ok]
  rw[hd];exact hc i vs[i] ds[i] (by simp[aa]) (fj ok)
 case build t parts =>
  simp only[dO]at ok;obtain⟨J,z,Y,ae⟩:=ok;simp only[gB,Y]
  suffices hs:∃u,(Instr.build t (parts.map λx=>(x.1,a.eval x.2))).run P w=.ok u w/\aM (cx w lev S) u (.agg (nN z (fH P env t parts.toList)))by
   obtain⟨u,D,E⟩:=hs;exact⟨u,kK D,E⟩
  have ai:∃zv,(zeroValue t).run P w=.ok zv w/\zv.cells.size=z.length/\∀(i:Nat) v d,zv.cells[i]?=some v->z[i]?=some d->aM (cx w lev S) v d:=by
   unfold nw at Y;cases K:P.info? t with
   |none=>rw[K]at Y;cases Y
   |some av =>
    simp only[K]at Y;cases ak:av.zero with
    |none=>rw[ak]at Y;cases Y
    |some zv =>
     rw[ak]at Y;cases Y;refine⟨zv,by simp[zeroValue,Sem.run_bind,pF K,ak,Sem.run,pure],by simp,?_⟩;intro i v d B hd;simp only[getElem?_map]at hd;have:zv.cells.toList[i]?=some v:=by simpa using B
     rw[this]at hd;simp at hd;subst hd;exact uI v
  obtain⟨zv,au,aE,aj⟩:=ai;have U:∀(pl:Nat->Option (Nat×Nat)),(∀(k:Nat) p q,parts.toList[k]?=some p->(fH P env t parts.toList)[k]?=some q->pl p.1=some (q.1,q.2.1)/\q.2.2=rd env p.2)->(fH P env t parts.toList).length=parts.toList.length ->
    ∃O,Instr.fill pl zv.cells (parts.map λx=>(x.1,a.eval x.2)).toList=some O/\aM (cx w lev S) (.agg O) (.agg (nN z (fH P env t parts.toList))):=by
   intro pl aB ap
   obtain⟨O,e1,e2,e3⟩:=IK (V:=cx w lev S) pl (parts.map λx=>(x.1,a.eval x.2)).toList (fH P env t parts.toList) zv.cells z (by simpa using ap.symm) aE aj (by
    intro k p q hp hq;simp only[Array.toList_map,getElem?_map]at hp;cases ah:parts.toList[k]? with
    |none=>rw[ah]at hp;cases hp
    |some p0 =>
     rw[ah]at hp;cases hp;obtain⟨f1,f2⟩:=aB k p0 q ah hq
     exact⟨f1,by rw[f2];exact g p0.2⟩) ae
   exact⟨O,e1,.agg _ _ e2 e3⟩
  cases A:eH P t<;>rw[A]at J<;>try exact J.elim
  ·rename_i n z' ea;obtain⟨e,E,X,hz0⟩:=C7 A
   obtain⟨O,e1,e2⟩:=U (λi=>some (i*z',z')) (by
    intro k p q hp hq;simp only[fH,A,getElem?_map,hp,Option.map_some,oF]at hq;subst hq
    exact⟨rfl,rfl⟩) (by simp[fH,A])
   refine⟨.agg O,?_,e2⟩;simp only[Instr.build,Sem.run_bind,au,bO E,cY X,Result.andThen_ok,e1];rfl
  ·rename_i fs;obtain⟨fa,E,az⟩:=BF A;obtain⟨ps,aC,aA⟩:=abl (P:=P) az w
   obtain⟨O,e1,e2⟩:=U (λi=>ps[i]?) (by
    intro k p q hp hq;simp only[fH,A,getElem?_map,hp,Option.map_some,oF]at hq;have aa:=J p (fO hp);rw[fj aa]at hq;subst hq;refine⟨?_,rfl⟩
    rw[aA,fj aa];rfl) (by simp[fH,A])
   refine⟨.agg O,?_,e2⟩;simp only[Instr.build,Sem.run_bind,au,bO E,Result.andThen_ok];have ar:(fa.mapM (λf=>do pure (f.offset,<-sizeOf f.type):Field->Sem (Nat×Nat))).run P w=.ok ps w:=aC;rw[ar];simp only[Result.andThen_ok,e1];rfl
 case slice t x lo K mx =>
  cases mx with
  |none =>
   simp only[dO]at ok;obtain⟨u,D,E⟩:=V7 (V:=cx w lev S) Z (g x) (m9:=a.eval) g ok w;exact⟨u,kK D,E⟩
  |some m =>
   cases lo with
   |some l=>simp only[dO]at ok
   |none =>
   cases K with
   |none=>simp only[dO]at ok
   |some I =>
    simp only[dO]at ok;obtain⟨aw,ax,al,am⟩:=ok;have rh:=g I;have rm:=g m;cases e1:rd env I<;>rw[e1]at al rh<;>simp only[isZero]at al;cases e2:rd env m<;>rw[e2]at am rm<;>simp only[isZero]at am;subst al;subst am;have Y:∀(v:Value)(k:IntKind)(y:Nat)(code:BoundsCode),v=.int k 0->(Instr.sliceBound v y code).run P w=.ok 0 w:=λv k y code B=>run_sliceBound B (by omega) (by omega) code w;have b1:=λy code=>Y _ _ y code rh.eU;have b2:=λy code=>Y _ _ y code rm.eU;have aD:∃F len cap,a.eval x=.slice F len cap:=by
     have r1:=g x;generalize a.eval x=v at r1;cases M:rd env x<;>rw[M]at ax r1<;>simp only[acO]at ax
     ·cases r1;exact⟨_,_,_,rfl⟩
     ·cases r1;exact⟨_,_,_,rfl⟩
     ·obtain⟨_,_,h,_⟩:=r1.Bx;exact⟨_,_,_,h⟩
     ·obtain⟨_,_,_,_,h⟩:=r1.qY;exact⟨_,_,_,h⟩
     ·obtain⟨_,_,_,_,_,_,h,_⟩:=r1.o8;exact⟨_,_,_,h⟩
     ·obtain⟨_,_,_,_,h,_⟩:=r1.j0;exact⟨_,_,_,h⟩
    obtain⟨F,len,cap,B⟩:=aD;cases A:eH P t<;>rw[A]at aw<;>simp only[X5]at aw;obtain⟨el,av,E,ao,hin,hb,Y,_⟩:=fR A;refine⟨.slice F 0 0,kK ?_,.emp _⟩;rw[B];simp[Instr.sliceAt,Sem.run_bind,bO E,Instr.slice,Instr.sliceBounds,b1,b2,cY ao,Sem.run,pure]
 case makeFunc fn first caps =>
  cases fn<;>simp only[dO]at ok;subst ok;rename_i f;refine⟨.func (.func f) #[] (caps.map a.eval),?_,?_⟩
  ·exact kK (by simp[Instr.makeFunc,Sem.run,pure])
  ·simp only[gB];refine .fn f _ _ (by simp) ?_;intro i v x B M;simp only[Array.getElem?_map,getElem?_map]at B M;have hc:caps[i]?=caps.toList[i]?:=by simp
   rw[hc]at B;cases hy:caps.toList[i]? with
   |none=>rw[hy]at B;cases B
   |some y =>
    rw[hy]at B M;cases B;cases M;exact g y
 case call c =>
  simp only[dO]at ok;simp only[gB];cases N:c.callee with
  |value f=>rw[N]at ok;exact ok.elim
  |invoke r m=>rw[N]at ok;exact ok.elim
  |builtin bi =>
  rw[N]at ok;cases bi<;>try exact ok.elim
  ·-- len
   cases H:c.args.toList with
   |nil=>rw[H]at ok;exact ok.elim
   |cons x l1 =>
   cases l1 with
   |cons y l2=>rw[H]at ok;exact ok.elim
   |nil =>
   cases W:c.argTypes.toList with
   |nil=>rw[H,W]at ok;exact ok.elim
   |cons t l1 =>
   cases l1 with
   |cons y l2=>rw[H,W]at ok;exact ok.elim
   |nil =>
   rw[H,W]at ok;simp only at ok |-;have e1:=ac2 H;have e2:=ac2 W;obtain⟨u,D,E⟩:=abD (P:=P) (w:=w) (ty:=o.type) (V:=cx w lev S) (λr z rows ho=>by obtain⟨a,c,I,_⟩:=Z r z rows ho;exact⟨a,c,I⟩) (g x) ok;refine⟨u,?_,E⟩;have hm:c.args.map a.eval = #[a.eval x]:=by rw[e1];simp
   simp only[resolve,N,Sem.run_bind,pure,Sem.run,Result.andThen_ok,invoke,builtin,hm,e2,D]
  ·obtain⟨af,K⟩:=ok;simp only;cases X:c.args.toList with
   |nil=>exact(af X).elim
   |cons x l' =>
    rw[X]at K;simp only[map_cons]at K |-;have r1:=g x;cases M:rd env x<;>rw[M]at K r1<;>try exact K.elim
    rename_i k n
    obtain⟨u,D,E,k',n',hk⟩:=T9 (P:=P) (w:=w) (V:=cx w lev S) (l'.map a.eval) (l'.map (rd env)) (a.eval x) (.int k n) r1 ⟨_,_,rfl⟩ (by simp) (by
     intro i v e B he;simp only[getElem?_map]at B he;cases hy:l'[i]? with
     |none=>rw[hy]at B;cases B
     |some y =>
      rw[hy]at B he;cases B;cases he
      exact g y) K
    refine⟨u,?_,E⟩;have hm:(c.args.map a.eval).toList=a.eval x::l'.map a.eval:=by simp[X]
    simp only[resolve,N,Sem.run_bind,pure,Sem.run,Result.andThen_ok,invoke,builtin,Builtin.max_,hm,D]
  ·obtain⟨af,K⟩:=ok;simp only;cases X:c.args.toList with
   |nil=>exact(af X).elim
   |cons x l' =>
    rw[X]at K;simp only[map_cons]at K |-;have r1:=g x;cases M:rd env x<;>rw[M]at K r1<;>try exact K.elim
    rename_i k n
    obtain⟨u,D,E,k',n',hk⟩:=T' (P:=P) (w:=w) (V:=cx w lev S) (l'.map a.eval) (l'.map (rd env)) (a.eval x) (.int k n) r1 ⟨_,_,rfl⟩ (by simp) (by
     intro i v e B he;simp only[getElem?_map]at B he;cases hy:l'[i]? with
     |none=>rw[hy]at B;cases B
     |some y =>
      rw[hy]at B he;cases B;cases he
      exact g y) K
    refine⟨u,?_,E⟩;have hm:(c.args.map a.eval).toList=a.eval x::l'.map a.eval:=by simp[X]
    simp only[resolve,N,Sem.run_bind,pure,Sem.run,Result.andThen_ok,invoke,builtin,Builtin.min_,hm,D]
end
end Go.Abs
namespace Go.Abs
open List

def nm(d k:Nat):Nat:=16*(d+1)+k
def EC(d k:Nat):16<=nm d k:=by unfold nm;omega

def idx:List Nat->Nat->Option Nat
 | [],_=>none
 |g::gs,r=>if g=r then some 0 else(idx gs r).map (· + 1)
theorem vL:∀{gs:List Nat} {r i:Nat},idx gs r=some i->gs[i]?=some r
 | [],r,i,h=>by simp[idx]at h
 |g::gs,r,i,h=>by
  unfold idx at h;split at h
  ·cases h;simp_all
  ·cases e:idx gs r with
   |none=>rw[e]at h;cases h
   |some j=>rw[e]at h;cases h;simpa using vL e
theorem RU:∀{gs:List Nat} {r i:Nat},gs.Nodup->gs[i]?=some r->idx gs r=some i
 | [],r,i,_,h=>by simp at h
 |g::gs,r,0,hn,h=>by simp at h;subst h;simp[idx]
 |g::gs,r,i+1,hn,h=>by
  simp at h;have a:=nodup_cons.1 hn;have:g≠r:=by rintro rfl;exact a.1 (fO h)
  simp[idx,this,RU a.2 h]
variable{r:Nat}
theorem aaJ{gs:List Nat}:r∈gs->∃i,idx gs r=some i:=by
 induction gs with
 |nil=>intro h;cases h
 |cons g gs ih =>
  intro h;unfold idx;by_cases e:g=r
  ·simp[e]
  ·simp only[e,if_false];rcases mem_cons.1 h with h|h
   ·exact(e h.symm).elim
   ·obtain⟨i,hi⟩:=ih h;exact⟨i+1,by simp[hi]⟩

mutual
/-- other names for the objects; what has none is forgotten -/
def D.nI(f:Nat->Option Nat):D->D
 | .fn g cs=>.fn g (D.wz f cs)
 | .agg cs=>.agg (D.wz f cs)
 | .bI cs=>.bI (D.wz f cs)
 | .box cs=>.box (D.wz f cs)
 | .ref s=>match f s with|some r=>.ref r|none=>.undef
 | .addr s o=>match f s with|some r=>.addr r o|none=>.undef
 | .cw s z i k=>match f s with|some r=>.cw r z i k|none=>.undef
 | .gq s z l n=>match f s with|some r=>.gq r z l n|none=>.undef
 | .eC s o z n c=>match f s with|some r=>.eC r o z n c|none=>.undef
 |d=>d
def D.wz(f:Nat->Option Nat):List D->List D
 | []=>[]
 |d::l=>d.nI f::D.wz f l
end
theorem IA(f:Nat->Option Nat):∀cs:List D,D.wz f cs=cs.map (D.nI f)
 | []=>rfl
 |d::l=>by rw[D.wz,IA f l];rfl
theorem aM.nI{C C':Cx}{f:Nat->Option Nat}(A:∀a v,C.V a=some v->C'.V a=some v){v:Value}{d:D}(r:aM C v d)(l:∀s∈d.names,∀t,f s=some t->∀u,C.S s=some u->C'.S t=some u):aM C' v (d.nI f):=by
 have q:∀(vs:Array Value)(ds:List D),vs.size=ds.length->(∀(i:Nat) v d,vs[i]?=some v->ds[i]?=some d->(∀s∈d.names,∀t,f s=some t->∀u,C.S s=some u->C'.S t=some u)->aM C' v (d.nI f)) ->
   (∀s∈D.bW ds,∀t,f s=some t->∀u,C.S s=some u->C'.S t=some u)->vs.size=(D.wz f ds).length/\∀(i:Nat) v d,vs[i]?=some v->(D.wz f ds)[i]?=some d->aM C' v d:=by
  intro vs ds o p l;rw[IA];refine⟨by simpa using o,?_⟩;intro i v d hi y;simp only[getElem?_map]at y;cases e:ds[i]? with
  |none=>rw[e]at y;cases y
  |some x=>rw[e]at y;cases y;exact p i v x hi e λs j=>l s (eO.2 ⟨x,fO e,j⟩)
 induction r with
 |fn g vs ds o h p=>obtain⟨c,m⟩:=q vs ds o p (λs j=>l s (by simp only[D.names];exact j));simp only[D.nI];exact .fn g vs _ c m
 |agg vs ds o _ p=>obtain⟨c,m⟩:=q vs ds o p (λs j=>l s (by simp only[D.names];exact j));simp only[D.nI];exact .agg vs _ c m
 |bI vs ds o _ p=>obtain⟨c,m⟩:=q vs ds o p (λs j=>l s (by simp only[D.names];exact j));simp only[D.nI];exact .bI vs _ c m
 |undef v=>exact .undef v
 |bool b=>exact .bool b
 |int k n=>exact .int k n
 |str s=>exact .str s
 |nil=>exact .nil
 |emp a=>exact .emp a
 |mD=>exact .mD
 |ig=>exact .ig
 |iV t v=>exact .iV t v
 |oG=>exact .oG
 |slnil z=>exact .slnil z
 |sl z a cap rows g o hz hk hc c _ =>
  exact aM.keep (d:=.sl z rows) A (.sl z a cap rows g o hz hk hc c) (λs j=>by simp[D.names]at j)
 |bE a cs g hn hc c _=>exact aM.keep (d:=.bE cs) A (.bE a cs g hn hc c) (λs j=>by simp[D.names]at j)
 |ref s a len cap h =>
  simp only[D.nI];split
  ·rename_i t e;exact .ref t a len cap (l s (by simp[D.names]) t e _ h)
  ·exact .undef _
 |addr s off a h =>
  simp only[D.nI];split
  ·rename_i t e;exact .addr t off a (l s (by simp[D.names]) t e _ h)
  ·exact .undef _
 |cw s z i k a len cap h =>
  simp only[D.nI];split
  ·rename_i t e;exact .cw t z i k a len cap (l s (by simp[D.names]) t e _ h)
  ·exact .undef _
 |gq s z lo len a a' L cap cap' h c m h3 =>
  simp only[D.nI];split
  ·rename_i t e;exact .gq t z lo len a a' L cap cap' (l s (by simp[D.names]) t e _ h) c m h3
  ·exact .undef _
 |eC s off z len cap a a' h c m =>
  simp only[D.nI];split
  ·rename_i t e;exact .eC t off z len cap a a' (l s (by simp[D.names]) t e _ h) c m
  ·exact .undef _

def uz:D->D
 | .own z rows=>.sl z rows
 | _=>.undef
def vB(z i k:Nat):D->D
 | .own z' rows=>if z'=z/\i<rows.length then .bE ((rows.getD i []).drop k)else .undef
 | _=>.undef
def nZ(z lo len:Nat):D->D
 | .own z' rows=>if z'=z/\lo+len<=rows.length then .sl z ((rows.drop lo).take len)else .undef
 | _=>.undef
def YI:D->Bool
 | .undef| .agg _| .bI _| .box _| .own _ _=>false
 |d=>d.names.isEmpty
def vA(off z len:Nat):D->D
 | .box cs=>if((cs.drop off).take (len*z)).all YI&&decide (off+len*z<=cs.length)then .sl z (rowsOf z len (cs.drop off))else .undef
 | _=>.undef
def nY(f:D->D)(off:Nat):D->D
 | .box cs=>.bE ((cs.drop off).map f)
 | _=>.undef
def dX(b:Bool)(d:D):D:=if b then .undef else d
def qH(d:D):D:=if d.names.isEmpty then d else .undef
def pP(o:Nat->D)(x:List Nat):Nat->D->D
 | 0,d=>qH d
 |k+1,.ref r=>dX (x.contains r) (uz (o r))
 |k+1,.addr r off=>dX (x.contains r) (nY (pP o x k) off (o r))
 |k+1,.cw r z i j=>dX (x.contains r) (vB z i j (o r))
 |k+1,.gq r z lo len=>dX (x.contains r) (nZ z lo len (o r))
 |k+1,.eC r off z len _=>dX (x.contains r) (vA off z len (o r))
 |k+1,.fn f cs=>.fn f (cs.map (pP o x k))
 |k+1,.agg cs=>.agg (cs.map (pP o x k))
 |k+1,.bI cs=>.bI (cs.map (pP o x k))
 |k+1,.box cs=>.undef
 | _+1,d=>d
def vJ(i:Option Nat)(f:Nat->D)(d:D):D:=
 match i with
 |some i=>f i
 |none=>d
def conv(bw:Bool)(gs:List Nat)(o:Nat->D):Nat->D->D
 | 0,d=>qH d
 |k+1,.ref r=>vJ (idx gs r) .ref (dX (!bw) (pP o gs k (.ref r)))
 |k+1,.addr r off=>vJ (idx gs r) (λi=>.addr i off) (dX (!bw) (pP o gs k (.addr r off)))
 |k+1,.cw r z i j=>vJ (idx gs r) (λx=>.cw x z i j) (dX (!bw) (pP o gs k (.cw r z i j)))
 |k+1,.gq r z lo len=>vJ (idx gs r) (λx=>.gq x z lo len) (dX (!bw) (pP o gs k (.gq r z lo len)))
 |k+1,.eC r off z len cap=>vJ (idx gs r) (λx=>.eC x off z len cap) (dX (!bw) (pP o gs k (.eC r off z len cap)))
 |k+1,.fn f cs=>.fn f (cs.map (conv bw gs o k))
 |k+1,.agg cs=>.agg (cs.map (conv bw gs o k))
 |k+1,.bI cs=>.bI (cs.map (conv bw gs o k))
 |k+1,.box cs=>.undef
 | _+1,d=>d
def yu(bw:Bool)(gs:List Nat)(o:Nat->D)(k:Nat):D->D
 | .box cs=>.box (cs.map (conv bw gs o k))
 | .own z rows=>.own z rows
 | _=>.undef

def CE(d:D):(qH d).names=[]:=by
 unfold qH;split
 ·rename_i h;simpa using h
 ·rfl
theorem Sd{f:D->D}(h:∀d,(f d).names=[])(cs:List D):D.bW (cs.map f)=[]:=by
 induction cs with
 |nil=>rfl
 |cons c cs ih=>simp[D.bW,h,ih]
variable{d:D}
def oU{b:Bool}(h:d.names=[]):(dX b d).names=[]:=by unfold dX;split;rfl;exact h
theorem Kq(o:Nat->D)(x:List Nat):∀(k:Nat)(d:D),(pP o x k d).names=[]
 | 0,d=>CE d
 |k+1,d=>by
  have a:=Kq o x k;cases d<;>simp only[pP]<;>(try rfl)<;>(try exact Sd a _)
  ·refine oU ?_;unfold uz;split<;>rfl
  ·refine oU ?_;unfold nY;split<;>rfl
  ·refine oU ?_;unfold vB;split<;>(try split)<;>rfl
  ·refine oU ?_;unfold nZ;split<;>(try split)<;>rfl
  ·refine oU ?_;unfold vA;split<;>(try split)<;>rfl

def sy:Value->D->Option (Nat×Nat×Nat)
 | .pointer (some a),.box cs=>some (a.block,a.off,a.off+cs.length)
 | .slice (some a) _ cap,.own z _=>if cap=0 then none else some (a.block,0,cap*z)
 | _,_=>none
def sD(gs:List Nat)(S:Nat->Option Value)(o:Nat->D)(b:Nat):Option (Nat×Nat):=
 gs.findSome? λr=>match (S r).bind λv=>sy v (o r)with
  |some x=>if x.1=b then some x.2 else none
  |none=>none
def u6(bw:Bool)(gs:List Nat)(lev own:Nat->Option Nat)(b:Nat):Option Nat:=
 match own b with
 |some r=>if gs.contains r then lev b else if bw then none else lev b
 |none=>lev b
def BM(gs:List Nat)(S:Nat->Option Value)(i:Nat):Option Value:=(gs[i]?).bind S
def MX(gs:List Nat)(own:Nat->Option Nat)(b:Nat):Option Nat:=(own b).bind (idx gs)

variable{b lo hi i:Nat}{v:Value}
section
variable{P:Program}{w0 w w':World}{l0:Nat->Option Nat}{G:Nat->Option (Nat×Nat)}{S0:Nat->Option Value}{lev lev' own own':Nat->Option Nat}{S S':Nat->Option Value}{env env':Env}{tm tm':Nat->Value}{B:Nat}{gs:List Nat}{bw:Bool}

def nj.blk(h:nj B G w lev own S r d)(f:S r=some v)(e:sy v d=some (b,lo,hi)) :
  own b=some r/\lev b=some 0/\Ut G B b lo hi/\∃(c:Array Value)(E:TypeId),w.heap[b]?=some (.cells c E (0,0)):=by
 cases d<;>try exact h.elim
 case undef=>cases v<;>simp[sy]at e
 case box cs =>
  obtain⟨q,o,c,E,g,j,k,l,m,n,p⟩:=h;rw[g]at f;cases f;simp only[sy,oF,Prod.mk.injEq]at e;obtain⟨rfl,rfl,rfl⟩:=e;exact⟨m,l,n,c,E,j⟩
 case own z rows =>
  rcases h with⟨a,g,j⟩| ⟨q,c,E,cap,g,j,k,l,m,n,p,h8,h9,h10⟩
  ·rw[g]at f;cases f;cases a<;>simp[sy]at e
  ·rw[g]at f;cases f;simp only[sy]at e;split at e
   ·cases e
   ·simp only[oF,Prod.mk.injEq]at e;obtain⟨rfl,rfl,rfl⟩:=e;rw[k]at h9;exact⟨h8,p,h9,c,E,j⟩
theorem FE{o:Nat->D}(h:sD gs S o b=some (lo,hi)):∃r∈gs,∃v,S r=some v/\sy v (o r)=some (b,lo,hi):=by
 unfold sD at h;obtain⟨r,g,a⟩:=exists_of_findSome?_eq_some h;refine⟨r,g,?_⟩;cases f:S r with
 |none=>rw[f]at a;cases a
 |some v =>
  rw[f]at a;simp only[Option.bind_some]at a;cases c:sy v (o r)with
  |none=>rw[c]at a;cases a
  |some x =>
   rw[c]at a;simp only at a;split at a
   ·rename_i e;simp only[oF]at a;refine⟨v,rfl,?_⟩;rw[c,<-e,<-a]
   ·cases a
def ach(h:Inv w0 l0 G S0 w lev own S env tm)(k:r∈gs)(e:S r=some v)(f:sy v (env.o r)=some (b,lo,hi)):sD gs S env.o b=some (lo,hi):=by
 have g:(sD gs S env.o b).isSome=true:=by
  unfold sD;rw[findSome?_isSome_iff];exact⟨r,k,by simp[e,f]⟩
 obtain⟨⟨lo',hi'⟩,hx⟩:=Option.isSome_iff_exists.1 g;obtain⟨l,hr',v',a,c⟩:=FE hx;have j:=((h.objs r).blk e f).1;have e2:=((h.objs l).blk a c).1;rw[j]at e2;cases e2;rw[e]at a;cases a;rw[f]at c;cases c;exact hx

def TH(b:Nat):u6 bw gs lev own b=lev b\/u6 bw gs lev own b=none:=by
 unfold u6;split
 ·split
  ·exact .inl rfl
  ·split
   ·exact .inr rfl
   ·exact .inl rfl
 ·exact .inl rfl
def pM:pV w lev w (u6 bw gs lev own):=by
 intro a u c;have e:=rM c;unfold vis at c |-;rcases TH (bw:=bw) (gs:=gs) (lev:=lev) (own:=own) a.block with h|h
 ·rw[h];exact c
 ·rw[h];exact e
def Dc(e:own b=some r)(c:gs.contains r=false){u:Value}(a:w.cell? ⟨b,i,none⟩=some u):vis w (u6 true gs lev own) ⟨b,i,none⟩=some u:=by
 unfold vis u6;simp only[e,c,if_true,Bool.false_eq_true,if_false];exact a

def zN(h:YI d=true):dK d:=by
 cases d<;>simp only[YI]at h<;>first| (cases h;done)|exact⟨trivial,by simpa using h⟩

theorem jo(z:Nat):∀(n:Nat)(cs:List D),(rowsOf z n cs).length=n
 | 0,_=>rfl
 |n+1,cs=>by simp[rowsOf,jo z n]
theorem qL(z:Nat):∀(n:Nat)(cs:List D)(i:Nat)(r:List D),(rowsOf z n cs)[i]?=some r->r=(cs.drop (i*z)).take z
 | 0,_,_,_,h=>by simp[rowsOf]at h
 |n+1,cs,0,r,h=>by simp[rowsOf]at h;simp[h]
 |n+1,cs,i+1,r,h=>by
  simp only[rowsOf,getElem?_cons_succ]at h;have:=qL z n _ i r h;rw[this,drop_drop,Nat.succ_mul,Nat.add_comm]

theorem Ml(h:Inv w0 l0 G S0 w lev own S env tm)(S':Nat->Option Value):∀(k:Nat)(d:D)(v:Value),aM (cx w lev S) v d->aM (cx w (u6 true gs lev own) S') v (pP env.o gs k d)
 | 0,d,v,s=>by
  simp only[pP,qH];split
  ·rename_i hn;have af:d.names=[]:=by simpa using hn
   exact s.jc pM (by rw[af];simp)
  ·exact .undef _
 |k+1,d,v,s=>by
  have ih:=Ml h S' k;have T:d.names=[]->aM (cx w (u6 true gs lev own) S') v d:=λhn=>s.jc pM (by rw[hn];simp);have U:∀(vs:Array Value)(ds:List D),vs.size=ds.length->(∀(i:Nat) v d,vs[i]?=some v->ds[i]?=some d->aM (cx w lev S) v d) ->
    vs.size=(ds.map (pP env.o gs k)).length/\∀(i:Nat) v d,vs[i]?=some v->(ds.map (pP env.o gs k))[i]?=some d->aM (cx w (u6 true gs lev own) S') v d:=by
   intro vs ds hl hh;refine⟨by simpa using hl,?_⟩;intro i v d hi C;simp only[getElem?_map]at C;cases e:ds[i]? with
   |none=>rw[e]at C;cases C
   |some x=>rw[e]at C;cases C;exact ih x v (hh i v x hi e)
  cases d<;>simp only[pP]<;>(try exact T rfl)<;>(try(cases s;done))
  ·obtain⟨vs,rfl,hs,hv⟩:=s.AZ;obtain⟨g,t⟩:=U vs _ hs hv;exact .fn _ vs _ g t
  ·obtain⟨vs,rfl,hs,hv⟩:=s.qQ;obtain⟨g,t⟩:=U vs _ hs hv;exact .agg vs _ g t
  ·obtain⟨vs,rfl,hs,hv⟩:=s.C6;obtain⟨g,t⟩:=U vs _ hs hv;exact .bI vs _ g t
  ·rename_i r;unfold dX;split
   ·exact .undef _
   ·rename_i M;have l:gs.contains r=false:=by simpa using M
    obtain⟨A,a,len,cap,rfl⟩:=s.qY;have H:=h.objs r;simp only[cx]at A;cases C:env.o r<;>rw[C]at H<;>simp only[uz]<;>(try exact .undef _);rename_i z rows;rcases H with⟨W,g,rfl⟩| ⟨b,c,E,n,g,t,h3,h4,N,K,X,h8,h9,h10⟩
    ·rw[A]at g;cases g;cases a with
     |none=>exact .slnil _
     |some ad=>exact l8 (rows:=[]) (by simp) (by simp) (by simp) (by simp)
    ·rw[A]at g;cases g;refine l8 h4 N K ?_;intro i j f x hi p;obtain⟨u,hu,J⟩:=h10 i j f x hi p;refine⟨u,?_,J.jc pM (by rw[(K f (fO hi) x (fO p)).2];simp)⟩;rw[gP,Nat.zero_add];exact Dc h8 l (by rw[lV w b _ t];exact hu)
  ·rename_i r off;unfold dX;split
   ·exact .undef _
   ·rename_i M;have l:gs.contains r=false:=by simpa using M
    obtain⟨a,A,rfl⟩:=s.ld;have H:=h.objs r;simp only[cx]at A;cases C:env.o r<;>rw[C]at H<;>simp only[nY]<;>(try exact .undef _);rename_i cs;obtain⟨b,o,c,E,g,t,h3,h4,N,K,X⟩:=H;rw[A]at g;cases g;refine n9 (by intro d ac;obtain⟨x,_,rfl⟩:=mem_map.1 ac;exact Kq _ _ _ _) ?_;intro j x p;simp only[getElem?_map,getElem?_drop]at p;cases e:cs[off+j]? with
    |none=>rw[e]at p;cases p
    |some y =>
     rw[e]at p;cases p;have I:o+(off+j)<c.size:=by have:=(gU.1 e).1;omega
     refine⟨c[o+(off+j)],?_,ih y _ (X (off+j) _ y (by simp[I]) e)⟩;rw[add_add,gP];exact Dc N l (by rw[lV w b _ t];simp[I])
  ·rename_i r z i j;unfold dX;split
   ·exact .undef _
   ·rename_i M;have l:gs.contains r=false:=by simpa using M
    obtain⟨a,len,cap,A,rfl⟩:=s.mV;have H:=h.objs r;simp only[cx]at A;cases C:env.o r<;>rw[C]at H<;>simp only[vB]<;>(try exact .undef _);rename_i z' rows;split
    ·rename_i Y;obtain⟨rfl,hi⟩:=Y;rcases H with⟨W,g,rfl⟩| ⟨b,c,E,n,g,t,h3,h4,N,K,X,h8,h9,h10⟩
     ·simp at hi
     ·rw[A]at g;cases g;have q:rows.getD i []=rows[i]:=by simp[getD,hi]
      rw[q];refine n9 (λx hx=>(K _ (dS hi) x (mem_of_mem_drop hx)).2) ?_;intro m x R;rw[getElem?_drop]at R;obtain⟨u,hu,J⟩:=h10 i (j+m) rows[i] x (fj hi) R;refine⟨u,?_,J.jc pM (by rw[(K _ (dS hi) x (fO R)).2];simp)⟩;rw[add_add,gP];refine Dc h8 l ?_;rw[lV w b _ t,<-hu];congr 1;omega
    ·exact .undef _
  ·rename_i r z lo len;unfold dX;split
   ·exact .undef _
   ·rename_i M;have l:gs.contains r=false:=by simpa using M
    obtain⟨a,W,L,cap,n,A,rfl,q1,q2,q3⟩:=s.o8;have H:=h.objs r;simp only[cx]at A;cases C:env.o r<;>rw[C]at H<;>simp only[nZ]<;>(try exact .undef _);rename_i z' rows;split
    ·rename_i Y;obtain⟨rfl,aa⟩:=Y;have hl:((rows.drop lo).take len).length=len:=by simp;omega
     by_cases Z:len=0
     ·subst Z;have e0:(rows.drop lo).take 0=[]:=by simp
      rw[e0];cases W with
      |none=>rw[q3 rfl];exact .slnil _
      |some ad=>exact l8 (rows:=[]) (by simp) (by simp) (by simp) (by simp)
     obtain⟨b0,rfl,rfl⟩:=q1 Z;rcases H with⟨W,g,rfl⟩| ⟨b,c,E,cap2,g,t,h3,h4,N,K,X,h8,h9,h10⟩
     ·simp at aa;omega
     ·rw[A]at g;cases g;have:=l8 (V:=cx w (u6 true gs lev own) S') (z:=z') (rows:=(rows.drop lo).take len) (a:=(⟨b,0,none⟩:Addr).add (lo*z')) (cap:=n) (by rw[hl];exact q2)
       (λr s=>N r (mem_of_mem_drop (mem_of_mem_take s))) (λr s=>K r (mem_of_mem_drop (mem_of_mem_take s))) (by
        intro i j f x hi p;have F:i<len:=by have:=(gU.1 hi).1;rw[hl]at this;exact this
        rw[getElem?_take_of_lt F,getElem?_drop]at hi;obtain⟨u,hu,J⟩:=h10 (lo+i) j f x hi p;refine⟨u,?_,J.jc pM (by rw[(K _ (fO hi) x (fO p)).2];simp)⟩;rw[add_add,gP];refine Dc h8 l ?_;rw[lV w b _ t,<-hu]
        congr 1;rw[Nat.add_mul];omega)
      rw[hl]at this;exact this
    ·exact .undef _
  ·rename_i r off z len bcap;unfold dX;split
   ·exact .undef _
   ·rename_i M;have l:gs.contains r=false:=by simpa using M
    obtain⟨a,W,n,A,rfl,q1,q2,q3⟩:=s.j0;have H:=h.objs r;simp only[cx]at A;cases C:env.o r<;>rw[C]at H<;>simp only[vA]<;>(try exact .undef _);rename_i cs;split
    ·rename_i Y;simp only[Bool.and_eq_true,bz,bL]at Y;obtain⟨hp,hle⟩:=Y;by_cases Z:len=0
     ·subst Z;simp only[rowsOf];cases W with
      |none=>rw[q3.1 rfl];exact .slnil _
      |some ad=>exact l8 (rows:=[]) (by simp) (by simp) (by simp) (by simp)
     have ha:=q1 Z;subst ha;obtain⟨b,o,c,E,g,t,h3,h4,N,K,X⟩:=H;rw[A]at g;cases g;have Q:∀(i:Nat) f,(rowsOf z len (cs.drop off))[i]?=some f->i<len/\f=((cs.drop off).drop (i*z)).take z:=by
      intro i f hi;have:=(gU.1 hi).1;rw[jo]at this;exact⟨this,qL _ _ _ _ _ hi⟩
     have O:∀i,i<len->∀x∈((cs.drop off).drop (i*z)).take z,x∈(cs.drop off).take (len*z):=by
      intro i hi x hx;obtain⟨m,R⟩:=mem_iff_getElem?.1 hx;have ab:m<z:=by have:=(gU.1 R).1;simp at this;omega
      rw[getElem?_take_of_lt ab,getElem?_drop]at R;refine fO (i:=i*z+m) ?_;rw[getElem?_take_of_lt (wS ab hi)];exact R
     have:=l8 (V:=cx w (u6 true gs lev own) S') (z:=z) (rows:=rowsOf z len (cs.drop off)) (a:=(⟨b,o,none⟩:Addr).add off) (cap:=n) (by rw[jo];exact q2)
      (by
       intro f q;obtain⟨i,hi⟩:=mem_iff_getElem?.1 q;obtain⟨F,rfl⟩:=Q i f hi;have:(i+1)*z<=len*z:=tj z F;rw[Nat.succ_mul]at this
       simp;omega)
      (by
       intro f q x hx;obtain⟨i,hi⟩:=mem_iff_getElem?.1 q;obtain⟨F,rfl⟩:=Q i f hi
       exact zN (hp x (O i F x hx)))
      (by
       intro i j f x hi p;obtain⟨F,rfl⟩:=Q i f hi;have ag:=zN (hp x (O i F x (fO p)));have ae:j<z:=by have:=(gU.1 p).1;simp at this;omega
       rw[getElem?_take_of_lt ae,getElem?_drop,getElem?_drop]at p;have I:o+(off+(i*z+j))<c.size:=by have:=(gU.1 p).1;omega
       refine⟨c[o+(off+(i*z+j))],?_,(X _ _ x (by simp[I]) p).jc pM (by rw[ag.2];simp)⟩;rw[add_add,gP]
       exact Dc N l (by rw[lV w b _ t];simp[I]))
     rw[jo]at this;exact this
    ·exact .undef _

def vw(h:idx gs r=some i):BM gs S i=S r:=by
 unfold BM;rw[vL h];rfl
theorem GG(h:Inv w0 l0 G S0 w lev own S env tm):∀(k:Nat)(d:D)(v:Value),aM (cx w lev S) v d->aM (cx w (u6 bw gs lev own) (BM gs S)) v (conv bw gs env.o k d)
 | 0,d,v,c=>by
  simp only[conv,qH];split
  ·rename_i E;have F:d.names=[]:=by simpa using E
   exact c.jc pM (by rw[F];simp)
  ·exact .undef _
 |k+1,d,v,c=>by
  have N:=GG h k;have m:d.names=[]->aM (cx w (u6 bw gs lev own) (BM gs S)) v d:=λE=>c.jc pM (by rw[E];simp);have n:∀(vs:Array Value)(ds:List D),vs.size=ds.length->(∀(i:Nat) v d,vs[i]?=some v->ds[i]?=some d->aM (cx w lev S) v d) ->
    vs.size=(ds.map (conv bw gs env.o k)).length/\∀(i:Nat) v d,vs[i]?=some v->(ds.map (conv bw gs env.o k))[i]?=some d->aM (cx w (u6 bw gs lev own) (BM gs S)) v d:=by
   intro vs ds M K;refine⟨by simpa using M,?_⟩;intro i v d hi s;simp only[getElem?_map]at s;cases e:ds[i]? with
   |none=>rw[e]at s;cases s
   |some x=>rw[e]at s;cases s;exact N x v (K i v x hi e)
  have f:∀y,aM (cx w lev S) v y->aM (cx w (u6 bw gs lev own) (BM gs S)) v (dX (!bw) (pP env.o gs k y)):=by
   intro y C;unfold dX;cases bw with
   |false=>exact .undef _
   |true=>exact Ml h _ k y v C
  cases d<;>simp only[conv]<;>(try exact m rfl)<;>(try(cases c;done))
  ·obtain⟨vs,rfl,t,u⟩:=c.AZ;obtain⟨p,q⟩:=n vs _ t u;exact .fn _ vs _ p q
  ·obtain⟨vs,rfl,t,u⟩:=c.qQ;obtain⟨p,q⟩:=n vs _ t u;exact .agg vs _ p q
  ·obtain⟨vs,rfl,t,u⟩:=c.C6;obtain⟨p,q⟩:=n vs _ t u;exact .bI vs _ p q
  ·rename_i r;cases e:idx gs r with
   |none=>exact f _ c
   |some i =>
    obtain⟨g,a,len,cap,rfl⟩:=c.qY;exact .ref i a len cap ((vw e).trans g)
  ·rename_i r off;cases e:idx gs r with
   |none=>exact f _ c
   |some i =>
    obtain⟨a,g,rfl⟩:=c.ld;exact .addr i off a ((vw e).trans g)
  ·rename_i r z i j;cases e:idx gs r with
   |none=>exact f _ c
   |some x =>
    obtain⟨a,len,cap,g,rfl⟩:=c.mV;exact .cw x z i j a len cap ((vw e).trans g)
  ·rename_i r z lo len;cases e:idx gs r with
   |none=>exact f _ c
   |some x =>
    obtain⟨a,A,L,cap,l,g,rfl,J,H,I⟩:=c.o8;exact .gq x z lo len a A L cap l ((vw e).trans g) J H I
  ·rename_i r off z len bcap;cases e:idx gs r with
   |none=>exact f _ c
   |some x =>
    obtain⟨a,A,l,g,rfl,J,H,I⟩:=c.j0;obtain⟨_,rfl,O⟩:=I;exact .eC x off z len _ a A ((vw e).trans g) O H

def Xz(h:Inv w0 l0 G S0 w lev own S env tm)(U:gs.Nodup)(hi:gs[i]?=some r)(k:Nat)(p:env.o r≠.undef) :
  nj w.heap.size (sD gs S env.o) w (u6 bw gs lev own) (MX gs own) (BM gs S) i (yu bw gs env.o k (env.o r)):=by
 have F:=h.objs r;have f:=fO hi;have R:=RU U hi;have g:BM gs S i=S r:=vw R;have T:gs.contains r=true:=contains_iff_mem.2 f;have m:∀b,own b=some r->u6 bw gs lev own b=lev b:=by intro b L;unfold u6;simp only[L,T,if_true]
 have n:∀b,own b=some r->MX gs own b=some i:=by intro b L;unfold MX;simp only[L,Option.bind_some];exact R
 cases D:env.o r<;>rw[D]at F<;>simp only[yu]<;>(try exact F.elim)
 ·exact(p D).elim
 ·rename_i z rows;rcases F with⟨a,l,rfl⟩| ⟨b,c,E,cap,l,H,A,I,C,J,K,h8,h9,h10⟩
  ·exact .inl ⟨a,g.trans l,rfl⟩
  ·by_cases O:cap=0
   ·subst O;have:rows=[]:=length_eq_zero_iff.1 (by omega);subst this;exact .inl ⟨_,g.trans l,rfl⟩
   ·refine .inr ⟨b,c,E,cap,g.trans l,H,A,I,C,J,(m b h8).trans K,n b h8,.inr ⟨0,cap*z,?_,fS _,by rw[A];exact fS _⟩,?_⟩
    ·exact ach h f l (by rw[D];simp[sy,O])
    ·intro V j y d t Q;obtain⟨u,N,M⟩:=h10 V j y d t Q;exact⟨u,N,M.jc pM (by rw[(J y (fO t) d (fO Q)).2];simp)⟩
 ·rename_i cs;obtain⟨b,o,c,E,l,H,A,I,C,J,K⟩:=F;refine⟨b,o,c,E,g.trans l,H,by simpa using A,(m b C).trans I,n b C,.inr ⟨o,o+cs.length,?_,fS _,by simp⟩,?_⟩
  ·exact ach h f l (by rw[D];simp[sy])
  ·intro j u e N s;simp only[getElem?_map]at s;cases q:cs[j]? with
   |none=>rw[q]at s;cases s
   |some x=>rw[q]at s;cases s;exact GG h k x u (K j u x N q)
end
end Go.Abs
namespace Go.Abs
open List

def sN:D->Prop
 | .sl _ rows=>rows=[]
 | .bE _| .fn _ _| .agg _| .bI _| .box _| .own _ _=>False
 | _=>True
def xh:D->Prop
 | .agg cs=>∀c∈cs,sN c
 |d=>sN d
def sO:D->Prop
 | .bI ds=>∀d∈ds,xh d
 |d=>xh d
def xg:D->Prop
 | .box cs=>∀c∈cs,sN c
 | .own _ rows=>∀r∈rows,∀d∈r,sN d
 | .undef=>True
 | _=>False
theorem sN.rep{V c:Addr->Option Value}{S:Nat->Option Value}{v:Value}{d:D}(h:sN d)(r:aM ⟨V,S⟩ v d):aM ⟨c,S⟩ v d:=by
 cases r with
 |sl z a cap rows f hl hz hk hc hr =>
  have:rows=[]:=h;subst this;exact .sl z a cap [] f hl hz hk (by simp) (by simp)
 |slnil z=>exact .slnil z
 |undef v=>exact .undef v
 |bool b=>exact .bool b
 |int k n=>exact .int k n
 |str s=>exact .str s
 |nil=>exact .nil
 |emp a=>exact .emp a
 |mD=>exact .mD
 |ig=>exact .ig
 |iV t v=>exact .iV t v
 |oG=>exact .oG
 |ref r a len cap hh=>exact .ref r a len cap hh
 |addr r off a hh=>exact .addr r off a hh
 |cw r z i k a len cap hh=>exact .cw r z i k a len cap hh
 |gq r z lo len a a' L cap cap' hh h1 h2 h3=>exact .gq r z lo len a a' L cap cap' hh h1 h2 h3
 |eC r off z len cap a a' hh h1 h2=>exact .eC r off z len cap a a' hh h1 h2
 | _=>exact h.elim
def xh.rep{V c:Addr->Option Value}{S:Nat->Option Value}{v:Value}{d:D}(h:xh d)(r:aM ⟨V,S⟩ v d):aM ⟨c,S⟩ v d:=by
 by_cases a:∃cs,d=.agg cs
 ·obtain⟨cs,rfl⟩:=a;obtain⟨vs,rfl,g,f⟩:=r.qQ;exact .agg vs cs g λi v d e b=>sN.rep (h d (fO b)) (f i v d e b)
 ·have:sN d:=by cases d<;>first|exact h|exact(a ⟨_,rfl⟩).elim
  exact this.rep r
def sO.rep{V c:Addr->Option Value}{S:Nat->Option Value}{v:Value}{d:D}(h:sO d)(r:aM ⟨V,S⟩ v d):aM ⟨c,S⟩ v d:=by
 by_cases a:∃cs,d=.bI cs
 ·obtain⟨cs,rfl⟩:=a;obtain⟨vs,rfl,g,f⟩:=r.C6;exact .bI vs cs g λi v d e b=>xh.rep (h d (fO b)) (f i v d e b)
 ·have:xh d:=by cases d<;>first|exact h|exact(a ⟨_,rfl⟩).elim
  exact this.rep r

def yI:List Nat->Env->Env
 | [],e=>e
 |r::rs,e=>yI rs (lp r e)
def fc:D->Bool
 | .undef=>true
 | _=>false
def lW:List Nat->List D->List Nat
 |g::gs,h::hs=>if fc h then g::lW gs hs else lW gs hs
 | _,_=>[]
def l6(d:Nat):Nat->Nat->List Nat
 | _,0=>[]
 |k,m+1=>nm d k::l6 d (k+1) m
def H9(f:Nat->Option Nat):List Nat->List D->Env->Env
 |r::rs,h::hs,e=>H9 f rs hs (dU e r (h.nI f))
 | _,_,e=>e
def Km(ns:List Nat)(i:Nat):Option Nat:=ns[i]?
def gj(d:Nat)(gs:List Nat)(a:List D):List Nat:=gs++l6 d 0 (a.length-gs.length)
def eK(e:Env)(d:Nat)(gs:List Nat)(a:List D)(b:D):Env:=
 ck (H9 (Km (gj d gs a)) (gj d gs a) a (yI (lW gs a) e)) d (b.nI (Km (gj d gs a)))

structure Out(m:Nat)(hs':List D)(w:World)(l0:Nat->Option Nat)(G0:Nat->Option (Nat×Nat))(S0:Nat->Option Value)(w':World)(v:Value)(d:D):Prop where
 os:w'.os=w.os
 tape:w'.tape=w.tape
 output:w'.output=w.output
 size:w.heap.size<=w'.heap.size
 old:∀b,b<w.heap.size->G0 b=none->w'.heap[b]?=w.heap[b]?
 part:∀b lo hi,G0 b=some (lo,hi)->ny w w' b lo hi
 rep:∃lev own S,(∀b m,lev b=some m->b<w'.heap.size)/\(∀b,b<w.heap.size->G0 b=none->lev b=l0 b)/\aM (cx w' lev S) v d /\
  (∀r,nj w.heap.size G0 w' lev own S r (hs'.getD r .undef))/\∀i,i<m->hs'.getD i .undef≠.undef->S i=S0 i

theorem Lg(d:Nat):∀(m k:Nat),(l6 d k m).length=m
 | 0,_=>rfl
 |m+1,k=>by simp[l6,Lg d m]
theorem vT{d:Nat}:∀{m k s:Nat},s∈l6 d k m->∃j,k<=j/\j<k+m/\s=nm d j
 | 0,_,_,h=>by simp[l6]at h
 |m+1,k,s,h=>by
  simp only[l6,mem_cons]at h;rcases h with rfl|h
  ·exact⟨k,fS _,by omega,rfl⟩
  ·obtain⟨j,h1,h2,a⟩:=vT h;exact⟨j,by omega,by omega,a⟩
def afQ{d i j:Nat}(h:nm d i=nm d j):i=j:=by unfold nm at h;omega
theorem EB(d:Nat):∀(m k:Nat),(l6 d k m).Nodup
 | 0,_=>by simp[l6]
 |m+1,k=>by
  simp only[l6,nodup_cons];refine⟨?_,EB d m (k+1)⟩;intro h;obtain⟨j,h1,_,a⟩:=vT h;have:=afQ a;omega

section
variable{P:Program}{w0 w w':World}{l0:Nat->Option Nat}{G:Nat->Option (Nat×Nat)}{S0:Nat->Option Value}{lev lev' own own':Nat->Option Nat}{S S':Nat->Option Value}{env env':Env}{tm tm':Nat->Value}{B:Nat}{gs:List Nat}{bw:Bool}

theorem Inv.lq:∀(c:List Nat) {S:Nat->Option Value} {env:Env},Inv w0 l0 G S0 w lev own S env tm->∃a,Inv w0 l0 G S0 w lev own a (yI c env) tm/\∀s u,a s=some u->S s=some u/\s∉c
 | [],S,env,h=>⟨S,h,λs u d=>⟨d,by simp⟩⟩
 |k::c,S,env,h=>by
  obtain⟨a,f,g⟩:=Inv.lq c (h.kill k);refine⟨a,f,λs u d=>?_⟩;obtain⟨b,i⟩:=g s u d;by_cases e:s=k
  ·subst e;rw[gx]at b;cases b
  ·rw[gR _ _ e]at b;exact⟨b,by simp[e,i]⟩
theorem Ib(f:Nat->Option Nat):∀(ns:List Nat)(b:List D)(e:Env)(r:Nat),ns.Nodup->ns.length=b.length->(H9 f ns b e).o r=match idx ns r with
  |some i=>(b.getD i .undef).nI f
  |none=>e.o r
 | [],[],e,r,_,_=>rfl
 | [],_::_,_,_,_,h=>by simp at h
 | _::_,[],_,_,_,h=>by simp at h
 |n::ns,h::b,e,r,hn,hl=>by
  have a:=nodup_cons.1 hn;rw[H9,Ib f ns b _ r a.2 (by simpa using hl)];by_cases c:n=r
  ·subst c;have:idx ns n=none:=by
    cases d:idx ns n with
    |none=>rfl
    |some i=>exact(a.1 (fO (vL d))).elim
   rw[this];simp[idx,dU]
  ·simp only[idx,au c];cases d:idx ns r with
   |none=>simp[dU,Ne.symm c]
   |some i=>simp
theorem YS(f:Nat->Option Nat):∀(ns:List Nat)(a:List D)(e:Env),(H9 f ns a e).t=e.t
 | [],_,_=>rfl
 | _::_,[],_=>rfl
 |n::ns,h::a,e=>by rw[H9,YS f ns a];rfl
theorem KD:∀(gs:List Nat)(a:List D)(i r:Nat),gs.Nodup->gs.length<=a.length->gs[i]?=some r->(r∈lW gs a↔a.getD i .undef=.undef)
 | [],_,i,r,_,_,h=>by simp at h
 |g::gs,[],_,_,_,hl,_=>by simp at hl
 |g::gs,h::a,i,r,hn,hl,d=>by
  have c:=nodup_cons.1 hn;have e:∀(gs:List Nat)(a:List D)(x:Nat),x∈lW gs a->x∈gs:=by
   intro gs;induction gs with
   |nil=>intro a x b;cases a<;>simp[lW]at b
   |cons g gs f =>
    intro a x b;cases a with
    |nil=>simp[lW]at b
    |cons h a =>
     simp only[lW]at b;split at b
     ·rcases mem_cons.1 b with rfl|b
      ·simp
      ·exact mem_cons_of_mem _ (f a x b)
     ·exact mem_cons_of_mem _ (f a x b)
  cases i with
  |zero =>
   simp at d;subst d;simp only[lW,getD_cons_zero];cases h<;>simp[fc]<;>exact λb=>c.1 (e _ _ _ b)
  |succ i =>
   simp only[getElem?_cons_succ]at d;have j:r≠g:=by rintro rfl;exact c.1 (fO d)
   have f:=KD gs a i r c.2 (by simpa using hl) d;simp only[lW,getD_cons_succ];split
   ·simp[j,f]
   ·exact f
def ny.mono{b lo e d a:Nat}(h:ny w w' b lo e)(h1:d<=lo)(h2:e<=a):ny w w' b d a:=by
 obtain⟨c0,c,E,f,a2,a3,a4⟩:=h;exact⟨c0,c,E,f,a2,a3,λj hj=>a4 j (by omega)⟩

def Inv.call(h:Inv w0 l0 G S0 w lev own S env tm){d:Nat}{f:List D}{v:Value}{dv:D}(hn:gs.Nodup)(U:∀r∈gs,env.o r≠.undef)(M:∀r∈l6 d 0 (f.length-gs.length),env.o r=.undef)
  (al:gs.length<=f.length) (X:bw=true->sO dv/\∀h∈f,xg h) (ho:Out gs.length f w (u6 bw gs lev own) (sD gs S env.o) (BM gs S) w' v dv) :
  ∃lev' own' S',Inv w0 l0 G S0 w' lev' own' S' (eK env d gs f dv) (FD tm d v):=by
 obtain⟨aB,ai,ap,ah,N,ag,I,ac,S1,aA,az,ab,ao,Y⟩:=ho;obtain⟨Sk,hk,ar⟩:=h.lq (lW gs f)
 -- the names
 have ad:(gj d gs f).Nodup:=by
  unfold gj;refine nodup_append.2 ⟨hn,EB _ _ _,?_⟩;rintro a ha b p rfl;exact U a ha (M a p)
 have an:(gj d gs f).length=f.length:=by simp[gj,Lg];omega
 -- the given blocks
 have hG:∀b lo n,sD gs S env.o b=some (lo,n)->∃r∈gs,own b=some r/\lev b=some 0/\Ut G w0.heap.size b lo n/\b<w.heap.size:=by
  intro b lo n p;obtain⟨r,Z,u,q,av⟩:=FE p;obtain⟨e1,e2,F,c,E,e4⟩:=(h.objs r).blk q av;exact⟨r,Z,e1,e2,F,lt_of_block e4⟩
 let ns:=gj d gs f
 let old:Nat->Prop:=λb=>b<w.heap.size/\sD gs S env.o b=none
 let lev':Nat->Option Nat:=λb=>if b<w.heap.size/\sD gs S env.o b=none then lev b else I b
 let own':Nat->Option Nat:=λb=>if b<w.heap.size/\sD gs S env.o b=none then own b else(ac b).bind (Km ns)
 let S':Nat->Option Value:=λr=>match idx ns r with
  |some i=>S1 i
  |none=>Sk r
 have aq:pV w lev w' lev':=by
  intro a u q;have g:=World.block_lt_of_cell? _ _ (rM q);have A:sD gs S env.o a.block=none:=by
   cases e:sD gs S env.o a.block with
   |none=>rfl
   |some x =>
    obtain⟨lo,n⟩:=x;obtain⟨r,Z,e1,e2,_⟩:=hG _ _ _ e;unfold vis at q;rw[e2]at q;simp at q
  unfold vis at q |-;simp only[lev',g,A,and_self,if_true];rw[World.cell?_of_block (w:=w) (N _ g A)];exact q
 have aj:∀s u,Sk s=some u->S' s=some u:=by
  intro s u q;obtain⟨K,L⟩:=ar s u q;simp only[S'];cases H:idx ns s with
  |none=>exact q
  |some i =>
   have k:ns[i]?=some s:=vL H;have g:i<gs.length:=by
    rcases dN i gs.length with g|hge
    ·exact g
    ·exfalso;simp only[ns,gj]at k;rw[getElem?_append_right hge]at k;have:=M s (fO k);rw[h.fresh this]at K;cases K
   have T:gs[i]?=some s:=by
    simp only[ns,gj]at k;rwa[getElem?_append_left g]at k
   have ae:f.getD i .undef≠.undef:=λaG=>L ((KD gs f i s hn al T).2 aG);simp only;rw[Y i g ae];unfold BM;rw[T];exact K
 -- what the call gives,in the caller's names
 have aa:∀(u:Value)(x:D),aM (cx w' lev' S1) u x->aM (cx w' lev' S') u (x.nI (Km ns)):=by
  intro u x H;refine aM.nI (C:=cx w' lev' S1) (C':=cx w' lev' S') (λ_ _ h=>h) H ?_;intro s _ t ht y hy;have:idx ns t=some s:=RU ad ht;simp only[cx,S',this];exact hy
 have hV:bw=false->pV w' I w' lev':=by
  intro p a u q;have:lev' a.block=I a.block:=by
   simp only[lev'];split
   ·rename_i hc;rw[az _ hc.1 hc.2];unfold u6;split
    ·split<;>simp[p]
    ·rfl
   ·rfl
  unfold vis at q |-;rw[this];exact q
 have ax:aM (cx w' lev' S1) v dv:=by
  cases p:bw with
  |false=>exact ab.jc (hV p) λ_ _ _ h=>h
  |true=>exact(X p).1.rep ab
 have R:∀(x:D),(∃hh∈f,(∃cs,hh=.box cs/\x∈cs)\/∃z rows J,hh=.own z rows/\J∈rows/\x∈J)->∀u,aM (cx w' I S1) u x->aM (cx w' lev' S1) u x:=by
  rintro x ⟨hh,hm,H⟩ u q;cases p:bw with
  |false=>exact q.jc (hV p) λ_ _ _ h=>h
  |true =>
   have hp:=(X p).2 hh hm;rcases H with⟨cs,rfl,H⟩| ⟨z,rows,J,rfl,Z,H⟩
   ·exact(hp x H).rep q
   ·exact(hp J Z x H).rep q
 have ay:∀b lo n,Ut (sD gs S env.o) w.heap.size b lo n->Ut G w0.heap.size b lo n/\¬old b:=by
  intro b lo n A;rcases A with A| ⟨l,m,A,K,L⟩
  ·exact⟨.inl (Nat.le_trans h.size A),λhc=>by have:=hc.1;omega⟩
  ·obtain⟨r,Z,e1,e2,F,e4⟩:=hG _ _ _ A;exact⟨F.mono K L,λhc=>by have:=hc.2;rw[A]at this;cases this⟩
 refine⟨lev',own',S',⟨aB.trans h.os.1,h.os.2⟩,ai.trans h.tape,ap.trans h.output,Nat.le_trans h.size ah,?_,?_,?_,?_,?_,?_,?_⟩
 ·intro b p A;have g:b<w.heap.size:=Nat.lt_of_lt_of_le p h.size;have:sD gs S env.o b=none:=by
   cases e:sD gs S env.o b with
   |none=>rfl
   |some x =>
    obtain⟨lo,n⟩:=x;obtain⟨r,Z,e1,e2,F,e4⟩:=hG _ _ _ e;rcases F with F| ⟨l,m,F,_⟩
    ·omega
    ·rw[A]at F;cases F
  exact(N b g this).trans (h.old b p A)
 ·intro b lo n A;have hp:=h.part b lo n A;refine hp.trans ?_;cases e:sD gs S env.o b with
  |none =>
   refine hp.of_same (N b ?_ e);obtain⟨_,_,_,_,p,_⟩:=hp;exact lt_of_block p
  |some x =>
   obtain⟨l,m⟩:=x;obtain⟨r,Z,e1,e2,F,e4⟩:=hG _ _ _ e;rcases F with F| ⟨l',m',F,K,L⟩
   ·obtain⟨c0,_,_,aw,_⟩:=hp;have:=lt_of_block aw;omega
   ·rw[A]at F;cases F;exact(ag b l m e).mono K L
 ·intro b m p;simp only[lev']at p;split at p
  ·have:=h.priv b m p;omega
  ·exact aA b m p
 ·intro b p A;have g:b<w.heap.size:=Nat.lt_of_lt_of_le p h.size;have:sD gs S env.o b=none:=by
   cases e:sD gs S env.o b with
   |none=>rfl
   |some x =>
    obtain⟨lo,n⟩:=x;obtain⟨r,Z,e1,e2,F,e4⟩:=hG _ _ _ e;rcases F with F| ⟨l,m,F,_⟩
    ·omega
    ·rw[A]at F;cases F
  simp only[lev',g,this,and_self,if_true];exact h.kR b p A
 ·intro i n he;have Q:(H9 (Km ns) ns f (yI (lW gs f) env)).o i≠.undef:=he;rw[Ib _ _ _ _ _ ad an]at Q;simp only[S'];cases H:idx ns i with
  |none =>
   rw[H]at Q;exact hk.RI i n Q
  |some j =>
   rw[H]at Q;have k:ns[j]?=some i:=vL H;have g:j<gs.length:=by
    rcases dN j gs.length with g|hge
    ·exact g
    ·exfalso;simp only[ns,gj]at k;rw[getElem?_append_right hge]at k;obtain⟨_,_,_,e⟩:=vT (fO k);have:=EC d;rw[e]at n;have:=EC d ‹_›;omega
   have T:gs[j]?=some i:=by
    simp only[ns,gj]at k;rwa[getElem?_append_left g]at k
   have ae:f.getD j .undef≠.undef:=by
    intro e;simp only[e,D.nI]at Q;exact Q rfl
   simp only;rw[Y j g ae];unfold BM;rw[T];exact h.RI i n (U i (fO T))
 ·intro s;by_cases e:s=d
  ·subst e;simp only[eK,LY];simpa[FD]using aa v dv ax
  ·simp only[eK];rw[uO e,YS];have:FD tm d v s=tm s:=by simp[FD,e]
   rw[this];exact(hk.pK s).jc aq λs _ u q=>aj s u q
 ·intro r;show nj _ _ _ _ _ _ r ((H9 (Km ns) ns f (yI (lW gs f) env)).o r);rw[Ib _ _ _ _ _ ad an];cases H:idx ns r with
  |none =>
   have af:=hk.objs r;have O:S' r=Sk r:=by simp only[S',H]
   have aE:r∉gs:=by
    intro Z;have:r∈ns:=mem_append_left _ Z;obtain⟨i,n⟩:=aaJ this;rw[H]at n;cases n
   refine af.keep aq (λs _ u q=>aj s u q) (λhd=>by rw[hd]at af;rw[O];exact af) ?_;intro b p hl;have g:=h.priv b 0 hl;have A:sD gs S env.o b=none:=by
    cases e:sD gs S env.o b with
    |none=>rfl
    |some x =>
     obtain⟨lo,n⟩:=x;obtain⟨r',aD,e1,_⟩:=hG _ _ _ e;rw[p]at e1;cases e1;exact(aE aD).elim
   refine⟨N b g A,?_,?_⟩
   ·simp only[lev',g,A,and_self,if_true]
   ·simp only[own',g,A,and_self,if_true]
  |some i =>
   have k:ns[i]?=some r:=vL H;have O:S' r=S1 i:=by simp only[S',H]
   have W:=ao i;have V:f.getD i .undef≠.undef->f.getD i .undef∈f:=by
    intro am;rcases dN i f.length with g|hge
    ·rw[show f.getD i .undef=f[i]by simp[getD,g]];exact dS g
    ·rw[show f.getD i .undef=.undef by simp[getD,hge]]at am;exact(am rfl).elim
   have ak:∀b lo n,Ut (sD gs S env.o) w.heap.size b lo n->ac b=some i->lev' b=I b/\own' b=some r/\Ut G w0.heap.size b lo n:=by
    intro b lo n A p;obtain⟨K,L⟩:=ay b lo n A;refine⟨au L,?_,K⟩;simp only[own'];rw[au L,p];exact k
   show nj _ _ _ _ _ _ r ((f.getD i .undef).nI (Km ns));generalize hgd:f.getD i .undef=x at W V |-;cases x<;>try exact W.elim
   ·simp only[D.nI];show S' r=none;rw[O];exact W
   ·rename_i z rows;have hm:=V (by simp);simp only[D.nI];rcases W with⟨a,K,L⟩| ⟨b,c,E,cap,K,L,h3,h4,h5,h6,h7,h8,h9,h10⟩
    ·exact .inl ⟨a,O.trans K,L⟩
    ·obtain⟨g1,g2,g3⟩:=ak b _ _ h9 h8;refine .inr ⟨b,c,E,cap,O.trans K,L,h3,h4,h5,h6,g1.trans h7,g2,g3,?_⟩;intro i' j J y n hj;obtain⟨u,q,aF⟩:=h10 i' j J y n hj;have aC:=h6 J (fO n) y (fO hj);have:=R y ⟨_,hm,.inr ⟨z,rows,J,rfl,fO n,fO hj⟩⟩ u aF;exact⟨u,q,this.jc (.refl _ _) (by rw[aC.2];simp)⟩
   ·rename_i cs;have hm:=V (by simp);simp only[D.nI];obtain⟨b,o,c,E,K,L,h3,h4,h5,h6,h7⟩:=W;obtain⟨g1,g2,g3⟩:=ak b _ _ h6 h5;rw[IA];refine⟨b,o,c,E,O.trans K,L,by simpa using h3,g1.trans h4,g2,by simpa using g3,?_⟩;intro j u e q he;simp only[getElem?_map]at he;cases hy:cs[j]? with
    |none=>rw[hy]at he;cases he
    |some y =>
     rw[hy]at he;cases he;exact aa u y (R y ⟨_,hm,.inl ⟨cs,rfl,fO hy⟩⟩ u (h7 j u y q hy))
end
end Go.Abs
namespace Go.Abs
open List

def qT(b:Bool)(x d:D):D:=if b then x else d
mutual
def nC(o:D)(r:Nat):D->D
 | .fn g cs=>.fn g (xL o r cs)
 | .agg cs=>.agg (xL o r cs)
 | .bI cs=>.bI (xL o r cs)
 | .box cs=>.box (xL o r cs)
 | .ref s=>qT (s==r) (uz o) (.ref s)
 | .addr s off=>qT (s==r) (nY qH off o) (.addr s off)
 | .cw s z i k=>qT (s==r) (vB z i k o) (.cw s z i k)
 | .gq s z l n=>qT (s==r) (nZ z l n o) (.gq s z l n)
 | .eC s off z n c=>qT (s==r) (vA off z n o) (.eC s off z n c)
 |d=>d
def xL(o:D)(r:Nat):List D->List D
 | []=>[]
 |d::l=>nC o r d::xL o r l
end
theorem Ce(o:D)(r:Nat):∀cs:List D,xL o r cs=cs.map (nC o r)
 | []=>rfl
 |d::l=>by rw[xL,Ce o r l];rfl
def Ab(r:Nat)(e:Env):Env:=⟨λj=>nC (e.o r) r (e.t j),λj=>if j=r then .undef else nC (e.o r) r (e.o j)⟩
def ia:List Nat->Env->Env
 | [],e=>e
 |r::rs,e=>ia rs (Ab r e)

variable{b i r cap:Nat}{rows:List (List D)}{a:List D}
section
variable{P:Program}{w0 w w':World}{l0:Nat->Option Nat}{G:Nat->Option (Nat×Nat)}{S0:Nat->Option Value}{lev lev' own own':Nat->Option Nat}{S S':Nat->Option Value}{env env':Env}{tm tm':Nat->Value}{B:Nat}

def tv(S:Nat->Option Value)(env:Env)(r:Nat):Option Nat:=((S r).bind λv=>sy v (env.o r)).map (·.1)
def ux(lev:Nat->Option Nat)(x:Option Nat):Nat->Option Nat:=λb=>if x=some b then none else lev b
def BH(x:Option Nat):pV w lev w (ux lev x):=by
 intro a u c;have d:=rM c;unfold vis at c |-;unfold ux;by_cases h:x=some a.block
 ·rw[aq h];exact d
 ·rw[au h];exact c
def zx{x:Option Nat}(d:x=some b){u:Value}(c:w.cell? ⟨b,i,none⟩=some u):vis w (ux lev x) ⟨b,i,none⟩=some u:=by
 unfold vis ux;simp only[d,if_true];exact c
def Oe{o:Nat}{cs:List D}(c:S r=some (.pointer (some ⟨b,o,none⟩)))(d:env.o r=.box cs):tv S env r=some b:=by simp[tv,c,d,sy]
def Gn{z len:Nat}(c:S r=some (.slice (some ⟨b,0,none⟩) len cap))(e:env.o r=.own z rows)(d:cap≠0):tv S env r=some b:=by simp[tv,c,e,sy,d]
def Qw(c:rows[i]?=some a)(hl:rows.length<=cap):cap≠0:=by
 have:=(gU.1 c).1;omega

def XQ(h:Inv w0 l0 G S0 w lev own S env tm)(r:Nat)(S':Nat->Option Value) :
  (∀v,aM (cx w lev S) v (.ref r)->aM (cx w (ux lev (tv S env r)) S') v (uz (env.o r))) /\
  (∀off v,aM (cx w lev S) v (.addr r off)->aM (cx w (ux lev (tv S env r)) S') v (nY qH off (env.o r))) /\
  (∀z i j v,aM (cx w lev S) v (.cw r z i j)->aM (cx w (ux lev (tv S env r)) S') v (vB z i j (env.o r))) /\
  (∀z lo len v,aM (cx w lev S) v (.gq r z lo len)->aM (cx w (ux lev (tv S env r)) S') v (nZ z lo len (env.o r))) /\
  (∀off z len cap v,aM (cx w lev S) v (.eC r off z len cap)->aM (cx w (ux lev (tv S env r)) S') v (vA off z len (env.o r))):=by
 have I:=h.objs r;have F:=BH (w:=w) (lev:=lev) (tv S env r);refine⟨?_,?_,?_,?_,?_⟩
 ·intro v A;obtain⟨k,a,len,cap,rfl⟩:=A.qY;simp only[cx]at k;cases t:env.o r<;>rw[t]at I<;>simp only[uz]<;>(try exact .undef _);rename_i z rows;rcases I with⟨Q,l,rfl⟩| ⟨b,c,E,n,l,J,h3,M,R,H,T,h8,h9,h10⟩
  ·rw[k]at l;cases l;cases a with
   |none=>exact .slnil _
   |some ad=>exact l8 (rows:=[]) (by simp) (by simp) (by simp) (by simp)
  ·rw[k]at l;cases l;refine l8 M R H ?_;intro i j f x g p;obtain⟨u,Z,D⟩:=h10 i j f x g p;refine⟨u,?_,D.jc F (by rw[(H f (fO g) x (fO p)).2];simp)⟩;rw[gP,Nat.zero_add];exact zx (Gn k t (Qw g M)) (by rw[lV w b _ J];exact Z)
 ·intro off v A;obtain⟨a,k,rfl⟩:=A.ld;simp only[cx]at k;cases t:env.o r<;>rw[t]at I<;>simp only[nY]<;>(try exact .undef _);rename_i cs;obtain⟨b,o,c,E,l,J,h3,M,R,H,T⟩:=I;rw[k]at l;cases l;refine n9 (by intro d aa;obtain⟨x,_,rfl⟩:=mem_map.1 aa;exact CE _) ?_;intro j x p;simp only[getElem?_map,getElem?_drop]at p;cases e:cs[off+j]? with
  |none=>rw[e]at p;cases p
  |some y =>
   rw[e]at p;cases p;have C:o+(off+j)<c.size:=by have:=(gU.1 e).1;omega
   refine⟨c[o+(off+j)],?_,?_⟩
   ·rw[add_add,gP];refine zx (Oe k t) ?_;rw[lV w b _ J];simp[C]
   ·have hy:=T (off+j) c[o+(off+j)] y (by simp[C]) e;unfold qH;split
    ·rename_i hn;have ac:y.names=[]:=by simpa using hn
     exact hy.jc F (by rw[ac];simp)
    ·exact .undef _
 ·intro z i j v A;obtain⟨a,len,cap,k,rfl⟩:=A.mV;simp only[cx]at k;cases t:env.o r<;>rw[t]at I<;>simp only[vB]<;>(try exact .undef _);rename_i z' rows;split
  ·rename_i U;obtain⟨rfl,g⟩:=U;rcases I with⟨Q,l,rfl⟩| ⟨b,c,E,n,l,J,h3,M,R,H,T,h8,h9,h10⟩
   ·simp at g
   ·rw[k]at l;cases l;have q:rows.getD i []=rows[i]:=by simp[getD,g]
    rw[q];refine n9 (λx hx=>(H _ (dS g) x (mem_of_mem_drop hx)).2) ?_;intro m x O;rw[getElem?_drop]at O;obtain⟨u,Z,D⟩:=h10 i (j+m) rows[i] x (fj g) O;refine⟨u,?_,D.jc F (by rw[(H _ (dS g) x (fO O)).2];simp)⟩;rw[add_add,gP];refine zx (Gn k t (by omega)) ?_;rw[lV w b _ J,<-Z];congr 1;omega
  ·exact .undef _
 ·intro z lo len v A;obtain⟨a,Q,L,cap,n,k,rfl,q1,q2,q3⟩:=A.o8;simp only[cx]at k;cases t:env.o r<;>rw[t]at I<;>simp only[nZ]<;>(try exact .undef _);rename_i z' rows;split
  ·rename_i U;obtain⟨rfl,X⟩:=U;have hl:((rows.drop lo).take len).length=len:=by simp;omega
   by_cases W:len=0
   ·subst W;have e0:(rows.drop lo).take 0=[]:=by simp
    rw[e0];cases Q with
    |none=>rw[q3 rfl];exact .slnil _
    |some ad=>exact l8 (rows:=[]) (by simp) (by simp) (by simp) (by simp)
   obtain⟨b0,rfl,rfl⟩:=q1 W;rcases I with⟨Q,l,rfl⟩| ⟨b,c,E,cap2,l,J,h3,M,R,H,T,h8,h9,h10⟩
   ·simp at X;omega
   ·rw[k]at l;cases l;have:=l8 (V:=cx w (ux lev (tv S env r)) S') (z:=z') (rows:=(rows.drop lo).take len) (a:=(⟨b,0,none⟩:Addr).add (lo*z')) (cap:=n) (by rw[hl];exact q2)
     (λr A=>R r (mem_of_mem_drop (mem_of_mem_take A))) (λr A=>H r (mem_of_mem_drop (mem_of_mem_take A))) (by
      intro i j f x g p;have s:i<len:=by have:=(gU.1 g).1;rw[hl]at this;exact this
      rw[getElem?_take_of_lt s,getElem?_drop]at g;obtain⟨u,Z,D⟩:=h10 (lo+i) j f x g p;refine⟨u,?_,D.jc F (by rw[(H _ (fO g) x (fO p)).2];simp)⟩;rw[add_add,gP];refine zx (Gn k t (Qw g M)) ?_;rw[lV w b _ J,<-Z]
      congr 1;rw[Nat.add_mul];omega)
    rw[hl]at this;exact this
  ·exact .undef _
 ·intro off z len bcap v A;obtain⟨a,Q,n,k,rfl,q1,q2,q3⟩:=A.j0;simp only[cx]at k;cases t:env.o r<;>rw[t]at I<;>simp only[vA]<;>(try exact .undef _);rename_i cs;split
  ·rename_i U;simp only[Bool.and_eq_true,bz,bL]at U;obtain⟨hp,hle⟩:=U;by_cases W:len=0
   ·subst W;simp only[rowsOf];cases Q with
    |none=>rw[q3.1 rfl];exact .slnil _
    |some ad=>exact l8 (rows:=[]) (by simp) (by simp) (by simp) (by simp)
   have ha:=q1 W;subst ha;obtain⟨b,o,c,E,l,J,h3,M,R,H,T⟩:=I;rw[k]at l;cases l;have N:∀(i:Nat) f,(rowsOf z len (cs.drop off))[i]?=some f->i<len/\f=((cs.drop off).drop (i*z)).take z:=by
    intro i f g;have:=(gU.1 g).1;rw[jo]at this;exact⟨this,qL _ _ _ _ _ g⟩
   have K:∀i,i<len->∀x∈((cs.drop off).drop (i*z)).take z,x∈(cs.drop off).take (len*z):=by
    intro i g x hx;obtain⟨m,O⟩:=mem_iff_getElem?.1 hx;have Y:m<z:=by have:=(gU.1 O).1;simp at this;omega
    rw[getElem?_take_of_lt Y,getElem?_drop]at O;refine fO (i:=i*z+m) ?_;rw[getElem?_take_of_lt (wS Y g)];exact O
   have:=l8 (V:=cx w (ux lev (tv S env r)) S') (z:=z) (rows:=rowsOf z len (cs.drop off)) (a:=(⟨b,o,none⟩:Addr).add off) (cap:=n) (by rw[jo];exact q2)
    (by
     intro f q;obtain⟨i,g⟩:=mem_iff_getElem?.1 q;obtain⟨s,rfl⟩:=N i f g;have:(i+1)*z<=len*z:=tj z s;rw[Nat.succ_mul]at this
     simp;omega)
    (by
     intro f q x hx;obtain⟨i,g⟩:=mem_iff_getElem?.1 q;obtain⟨s,rfl⟩:=N i f g
     exact zN (hp x (K i s x hx)))
    (by
     intro i j f x g p;obtain⟨s,rfl⟩:=N i f g;have ae:=zN (hp x (K i s x (fO p)));have ab:j<z:=by have:=(gU.1 p).1;simp at this;omega
     rw[getElem?_take_of_lt ab,getElem?_drop,getElem?_drop]at p;have C:o+(off+(i*z+j))<c.size:=by have:=(gU.1 p).1;omega
     refine⟨c[o+(off+(i*z+j))],?_,(T _ _ x (by simp[C]) p).jc F (by rw[ae.2];simp)⟩;rw[add_add,gP]
     exact zx (Oe k t) (by rw[lV w b _ J];simp[C]))
   rw[jo]at this;exact this
  ·exact .undef _

theorem MA(h:Inv w0 l0 G S0 w lev own S env tm)(r:Nat){v:Value}{d:D}(E:aM (cx w lev S) v d):aM (cx w (ux lev (tv S env r)) (lP S r none)) v (nC (env.o r) r d):=by
 obtain⟨K,M,N,O,Q⟩:=XQ h r (lP S r none);have H:=BH (w:=w) (lev:=lev) (tv S env r);have same:∀{v:Value} {d:D},aM (cx w lev S) v d->r∉d.names->aM (cx w (ux lev (tv S env r)) (lP S r none)) v d:=by
  intro v d E F;refine E.jc H ?_;intro s c u J;rw[gR _ _ (by rintro rfl;exact F c)];exact J
 have q:∀(vs:Array Value)(ds:List D),vs.size=ds.length->(∀(i:Nat) v d,vs[i]?=some v->ds[i]?=some d->aM (cx w (ux lev (tv S env r)) (lP S r none)) v (nC (env.o r) r d)) ->
   vs.size=(xL (env.o r) r ds).length/\∀(i:Nat) v d,vs[i]?=some v->(xL (env.o r) r ds)[i]?=some d->aM (cx w (ux lev (tv S env r)) (lP S r none)) v d:=by
  intro vs ds l p;rw[Ce];refine⟨by simpa using l,?_⟩;intro i v d I A;simp only[getElem?_map]at A;cases e:ds[i]? with
  |none=>rw[e]at A;cases A
  |some x=>rw[e]at A;cases A;exact p i v x I e
 generalize m:cx w lev S=C at E;induction E with
 |fn g vs ds l _ p=>obtain⟨j,y⟩:=q vs ds l p;simp only[nC];exact .fn g vs _ j y
 |agg vs ds l _ p=>obtain⟨j,y⟩:=q vs ds l p;simp only[nC];exact .agg vs _ j y
 |bI vs ds l _ p=>obtain⟨j,y⟩:=q vs ds l p;simp only[nC];exact .bI vs _ j y
 |undef v=>exact .undef v
 |bool b=>exact .bool b
 |int k n=>exact .int k n
 |str s=>exact .str s
 |nil=>exact .nil
 |emp a=>exact .emp a
 |mD=>exact .mD
 |ig=>exact .ig
 |iV t v=>exact .iV t v
 |oG=>exact .oG
 |slnil z=>exact .slnil z
 |sl z a cap rows f l hz hk hc j _=>subst m;exact same (d:=.sl z rows) (.sl z a cap rows f l hz hk hc j) (by simp[D.names])
 |bE a cs f F hc j _=>subst m;exact same (d:=.bE cs) (.bE a cs f F hc j) (by simp[D.names])
 |ref s a len cap c =>
  subst m;simp only[nC,qT];by_cases e:s=r
  ·subst e;simp only[beq_self_eq_true,if_true];exact K _ (.ref s a len cap c)
  ·have:(s==r)=false:=by simpa using e
   simp only[this,Bool.false_eq_true,if_false];exact same (.ref s a len cap c) (by simp[D.names,Ne.symm e])
 |addr s off a c =>
  subst m;simp only[nC,qT];by_cases e:s=r
  ·subst e;simp only[beq_self_eq_true,if_true];exact M off _ (.addr s off a c)
  ·have:(s==r)=false:=by simpa using e
   simp only[this,Bool.false_eq_true,if_false];exact same (.addr s off a c) (by simp[D.names,Ne.symm e])
 |cw s z i k a len cap c =>
  subst m;simp only[nC,qT];by_cases e:s=r
  ·subst e;simp only[beq_self_eq_true,if_true];exact N z i k _ (.cw s z i k a len cap c)
  ·have:(s==r)=false:=by simpa using e
   simp only[this,Bool.false_eq_true,if_false];exact same (.cw s z i k a len cap c) (by simp[D.names,Ne.symm e])
 |gq s z lo len a a' L cap cap' c q1 q2 q3 =>
  subst m;simp only[nC,qT];by_cases e:s=r
  ·subst e;simp only[beq_self_eq_true,if_true];exact O z lo len _ (.gq s z lo len a a' L cap cap' c q1 q2 q3)
  ·have:(s==r)=false:=by simpa using e
   simp only[this,Bool.false_eq_true,if_false];exact same (.gq s z lo len a a' L cap cap' c q1 q2 q3) (by simp[D.names,Ne.symm e])
 |eC s off z len cap a a' c q1 q2 =>
  subst m;simp only[nC,qT];by_cases e:s=r
  ·subst e;simp only[beq_self_eq_true,if_true];exact Q off z len cap _ (.eC s off z len cap a a' c q1 q2)
  ·have:(s==r)=false:=by simpa using e
   simp only[this,Bool.false_eq_true,if_false];exact same (.eC s off z len cap a a' c q1 q2) (by simp[D.names,Ne.symm e])

def Inv.frz(h:Inv w0 l0 G S0 w lev own S env tm)(r:Nat):Inv w0 l0 G S0 w (ux lev (tv S env r)) own (lP S r none) (Ab r env) tm\/env.o r=.undef:=by
 by_cases q:env.o r=.undef
 ·exact .inr q
 left;have A:∀b k,own b=some k->k≠r->tv S env r≠some b:=by
  intro b k f e d;unfold tv at d;cases n:S r with
  |none=>rw[n]at d;cases d
  |some v =>
   rw[n]at d;simp only[Option.bind_some]at d;cases p:sy v (env.o r)with
   |none=>rw[p]at d;cases d
   |some y =>
    obtain⟨N,lo,I⟩:=y;rw[p]at d;simp only[Option.map_some,oF]at d;subst d;obtain⟨H,_⟩:=(h.objs r).blk n p;rw[f]at H;cases H;exact e rfl
 refine⟨h.os,h.tape,h.output,h.size,h.old,h.part,?_,?_,?_,?_,?_⟩
 ·intro b m f;unfold ux at f;split at f
  ·cases f
  ·exact h.priv b m f
 ·intro b f M;unfold ux;split
  ·rename_i d;exfalso;unfold tv at d;cases n:S r with
   |none=>rw[n]at d;cases d
   |some v =>
    rw[n]at d;simp only[Option.bind_some]at d;cases p:sy v (env.o r)with
    |none=>rw[p]at d;cases d
    |some y =>
     obtain⟨N,lo,I⟩:=y;rw[p]at d;simp only[Option.map_some,oF]at d;subst d;obtain⟨_,_,g,_⟩:=(h.objs r).blk n p;rcases g with g| ⟨l,m,g,_⟩
     ·omega
     ·rw[M]at g;cases g
  ·exact h.kR b f M
 ·intro i I t;simp only[Ab]at t;by_cases e:i=r
  ·rw[aq e]at t;exact(t rfl).elim
  ·rw[au e]at t;rw[gR _ _ e];refine h.RI i I ?_;intro F;rw[F]at t;exact t rfl
 ·intro s;exact MA h r (h.pK s)
 ·intro k;by_cases e:k=r
  ·subst e;simp only[Ab,if_true];exact gx _ _ _
  ·simp only[Ab,e,if_false];have C:=h.objs k;cases U:env.o k<;>rw[U]at C<;>try exact C.elim
   ·simp only[nC];show lP S r none k=none;rw[gR _ _ e];exact C
   ·rename_i z rows;simp only[nC];refine C.keep (BH _) ?_ (λh=>by cases h) ?_
    ·intro s J u F;rcases J with rfl|J
     ·rw[gR _ _ e];exact F
     ·simp[D.names]at J
    ·intro b f hl;refine⟨rfl,?_,rfl⟩;unfold ux;rw[au (A b k f e)]
   ·rename_i cs;simp only[nC];obtain⟨b,o,c,E,H,O,g,Q,L,R,T⟩:=C;rw[Ce];refine⟨b,o,c,E,by rw[gR _ _ e];exact H,O,by simpa using g,?_,L,by simpa using R,?_⟩
    ·unfold ux;rw[au (A b k L e)];exact Q
    ·intro j u x F d;simp only[getElem?_map]at d;cases K:cs[j]? with
     |none=>rw[K]at d;cases d
     |some y=>rw[K]at d;cases d;exact MA h r (T j u y F K)

theorem Inv.XP:∀(p:List Nat) {lev:Nat->Option Nat} {S:Nat->Option Value} {env:Env},Inv w0 l0 G S0 w lev own S env tm->(∀r∈p,True)->∃lev' S',Inv w0 l0 G S0 w lev' own S' (ia p env) tm
 | [],lev,S,env,h,_=>⟨lev,S,h⟩
 |k::p,lev,S,env,h,hk=>by
  by_cases A:env.o k=.undef
  ·-- nothing is let go: what names it is forgotten
   have q:=h.fresh A;have f:Inv w0 l0 G S0 w lev own S (Ab k env) tm:=by
    have m:∀{v:Value} {d:D},aM (cx w lev S) v d->aM (cx w lev S) v (nC (env.o k) k d):=by
     intro v d O;have:=MA h k O;have C:ux lev (tv S env k)=lev:=by
      funext b;unfold ux tv;rw[q];simp
     have e2:lP S k none=S:=by
      funext s;by_cases e:s=k
      ·subst e;rw[gx,q]
      ·exact gR _ _ e
     rw[C,e2]at this;exact this
    refine⟨h.os,h.tape,h.output,h.size,h.old,h.part,h.priv,h.kR,?_,λs=>m (h.pK s),?_⟩
    ·intro i f l;simp only[Ab]at l;split at l
     ·exact(l rfl).elim
     ·refine h.RI i f ?_;intro g;rw[g]at l;exact l rfl
    ·intro s;simp only[Ab];split
     ·rename_i e;subst e;exact q
     ·have n:=h.objs s;cases N:env.o s<;>rw[N]at n<;>try exact n.elim
      ·exact n
      ·exact n
      ·rename_i cs;simp only[nC];obtain⟨b,o,c,E,F,H,I,J,K,L,M⟩:=n;rw[Ce];refine⟨b,o,c,E,F,H,by simpa using I,J,K,by simpa using L,?_⟩;intro j u x t g;simp only[getElem?_map]at g;cases z:cs[j]? with
       |none=>rw[z]at g;cases g
       |some y=>rw[z]at g;cases g;exact m (M j u y t z)
   exact Inv.XP p f (λ_ _=>trivial)
  ·rcases h.frz k with f|f
   ·exact Inv.XP p f (λ_ _=>trivial)
   ·exact(A f).elim
end
end Go.Abs
namespace Go.Abs

mutual
/-- what is known by d (with the elder names) is known by d' (with the new ones): rho tells the elder name of a new one, none: of an empty slice that was nil; e: is the new name alive? -/
def mg(m9:Nat->Option Nat)(e:Nat->Bool):D->D->Prop
 | _,.undef=>True
 | .ref r,.ref s=>m9 s=some r/\e s=true
 | .nil,.ref s=>m9 s=none/\e s=true
 | .addr r o,.addr s o'=>m9 s=some r/\e s=true/\o=o'
 | .cw r z i k,.cw s z' i' k'=>m9 s=some r/\e s=true/\z=z'/\i=i'/\k=k'
 | .gq r z l m,.gq s z' l' m'=>m9 s=some r/\e s=true/\z=z'/\l=l'/\m=m'
 | .eC r o z m c,.eC s o' z' m' c'=>m9 s=some r/\e s=true/\o=o'/\z=z'/\m=m'/\c=c'
 | .agg a,.agg b=>mB m9 e a b
 | .bI a,.bI b=>mB m9 e a b
 | .fn f a,.fn g b=>f=g/\mB m9 e a b
 | .nil,.sl _ rows=>rows=[]
 | .nil,.emp=>True
 | .nil,.nil=>True
 | .emp,.emp=>True
 | .mD,.mD=>True
 | .ig,.ig=>True
 | .iV,.iV=>True
 | .oG,.oG=>True
 | .bool a,.bool b=>a=b
 | .int k a,.int k' b=>k=k'/\a=b
 | .str a,.str b=>a=b
 | .sl z a,.sl z' b=>z=z'/\a=b
 | .bE a,.bE b=>a=b
 | _,_=>False
def mB(m9:Nat->Option Nat)(c:Nat->Bool):List D->List D->Prop
 | [],[]=>True
 |a::x,b::y=>mg m9 c a b/\mB m9 c x y
 | _,_=>False
end
theorem Co{m9:Nat->Option Nat}{e:Nat->Bool}:∀{a b:List D},mB m9 e a b->a.length=b.length/\∀(i:Nat) x y,a[i]?=some x->b[i]?=some y->mg m9 e x y
 | [],[],_=>⟨rfl,λi x y h=>by simp at h⟩
 | [],_::_,h=>by simp[mB]at h
 | _::_,[],h=>by simp[mB]at h
 |a::x,b::y,h=>by
  simp only[mB]at h;obtain⟨f,g⟩:=Co h.2;refine⟨by simp[f],?_⟩;intro i u v c d;cases i with
  |zero=>simp at c d;subst c;subst d;exact h.1
  |succ i=>simp at c d;exact g i u v c d
def Vg(m9:Nat->Option Nat)(c:Nat->Bool):D->D->Prop
 | .box a,.box b=>mB m9 c a b
 | .own z a,.own z' b=>z=z'/\a=b
 | _,_=>False

theorem mg.rep{C C':Cx}{m9:Nat->Option Nat}{x:Nat->Bool}(B:∀a v,C.V a=some v->C'.V a=some v)(p:∀s r,m9 s=some r->x s=true->∀u,C.S r=some u->C'.S s=some u)(E:∀s,m9 s=none->x s=true->C'.S s=some (.slice none 0 0))
  {v:Value} {d:D} (r:aM C v d):∀{e:D},mg m9 x d e->aM C' v e:=by
 have o:∀(vs:Array Value)(ds:List D)(ds':List D),vs.size=ds.length->(∀(i:Nat) v d,vs[i]?=some v->ds[i]?=some d->∀{e:D},mg m9 x d e->aM C' v e)->mB m9 x ds ds' ->
   vs.size=ds'.length/\∀(i:Nat) v d,vs[i]?=some v->ds'[i]?=some d->aM C' v d:=by
  intro vs ds ds' l m y;obtain⟨g,j⟩:=Co y;refine⟨l.trans g,?_⟩;intro i v d F c;have q:i<ds.length:=by rw[g];exact(gU.1 c).1
  exact m i v _ F (fj q) (j i _ d (fj q) c)
 induction r with
 |fn f vs ds l h m=>intro e c;cases e<;>simp only[mg]at c<;>first|exact .undef _|exact c.elim|skip;(obtain⟨rfl,c⟩:=c;obtain⟨g,j⟩:=o vs ds _ l m c;exact .fn f vs _ g j)
 |agg vs ds l h m=>intro e c;cases e<;>simp only[mg]at c<;>first|exact .undef _|exact c.elim|skip;(obtain⟨g,j⟩:=o vs ds _ l m c;exact .agg vs _ g j)
 |bI vs ds l h m=>intro e c;cases e<;>simp only[mg]at c<;>first|exact .undef _|exact c.elim|skip;(obtain⟨g,j⟩:=o vs ds _ l m c;exact .bI vs _ g j)
 |undef v=>intro e c;cases e<;>simp only[mg]at c<;>first|exact .undef _|exact c.elim
 |bool b=>intro e c;cases e<;>simp only[mg]at c<;>first|exact .undef _|exact c.elim| (subst c;exact .bool _)
 |int k n=>intro e c;cases e<;>simp only[mg]at c<;>first|exact .undef _|exact c.elim| (obtain⟨rfl,rfl⟩:=c;exact .int _ _)
 |str s=>intro e c;cases e<;>simp only[mg]at c<;>first|exact .undef _|exact c.elim| (subst c;exact .str _)
 |nil =>
  intro e c;cases e<;>simp only[mg]at c<;>first|exact .undef _|exact c.elim|exact .nil|exact .emp _|skip
  ·subst c;exact .slnil _
  ·exact .ref _ none 0 0 (E _ c.1 c.2)
 |emp a=>intro e c;cases e<;>simp only[mg]at c<;>first|exact .undef _|exact c.elim|exact .emp _
 |mD=>intro e c;cases e<;>simp only[mg]at c<;>first|exact .undef _|exact c.elim|exact .mD
 |ig=>intro e c;cases e<;>simp only[mg]at c<;>first|exact .undef _|exact c.elim|exact .ig
 |iV t v=>intro e c;cases e<;>simp only[mg]at c<;>first|exact .undef _|exact c.elim|exact .iV _ _
 |oG=>intro e c;cases e<;>simp only[mg]at c<;>first|exact .undef _|exact c.elim|exact .oG
 |slnil z=>intro e c;cases e<;>simp only[mg]at c<;>first|exact .undef _|exact c.elim| (obtain⟨rfl,rfl⟩:=c;exact .slnil _)
 |sl z a cap rows f l hz hk hc g _ =>
  intro e c;cases e<;>simp only[mg]at c<;>first|exact .undef _|exact c.elim|skip
  obtain⟨rfl,rfl⟩:=c;exact aM.keep (d:=.sl z rows) B (.sl z a cap rows f l hz hk hc g) (λs A=>by simp[D.names]at A)
 |bE a cs f hn hc g _ =>
  intro e c;cases e<;>simp only[mg]at c<;>first|exact .undef _|exact c.elim|skip
  subst c;exact aM.keep (d:=.bE cs) B (.bE a cs f hn hc g) (λs A=>by simp[D.names]at A)
 |ref r a len cap h=>intro e c;cases e<;>simp only[mg]at c<;>first|exact .undef _|exact c.elim|exact .ref _ a len cap (p _ _ c.1 c.2 _ h)
 |addr r off a h=>intro e c;cases e<;>simp only[mg]at c<;>first|exact .undef _|exact c.elim| (obtain⟨g,j,rfl⟩:=c;exact .addr _ _ a (p _ _ g j _ h))
 |cw r z i k a len cap h=>intro e c;cases e<;>simp only[mg]at c<;>first|exact .undef _|exact c.elim| (obtain⟨g,j,rfl,rfl,rfl⟩:=c;exact .cw _ _ _ _ a len cap (p _ _ g j _ h))
 |gq r z lo len a a' L cap cap' h q1 q2 q3=>intro e c;cases e<;>simp only[mg]at c<;>first|exact .undef _|exact c.elim| (obtain⟨g,j,rfl,rfl,rfl⟩:=c;exact .gq _ _ _ _ a a' L cap cap' (p _ _ g j _ h) q1 q2 q3)
 |eC r off z len cap a a' h q1 q2=>intro e c;cases e<;>simp only[mg]at c<;>first|exact .undef _|exact c.elim| (obtain⟨g,j,rfl,rfl,rfl,rfl⟩:=c;exact .eC _ _ _ _ _ a a' (p _ _ g j _ h) q1 q2)

structure LeE(m:Nat)(m9:Nat->Option Nat)(e E:Env):Prop where
 pK:∀j,mg m9 (λs=>!fc (E.o s)) (e.t j) (E.t j)
 objs:∀s,E.o s≠.undef->match m9 s with
  |some r=>Vg m9 (λs=>!fc (E.o s)) (e.o r) (E.o s)
  |none=>∃z,E.o s=.own z []
 inj:∀s s' r,E.o s≠.undef->E.o s'≠.undef->m9 s=some r->m9 s'=some r->s=s'
 RI:∀s,s<m->E.o s≠.undef->m9 s=some s

def yF{d:D}:fc d=true↔d=.undef:=by cases d<;>simp[fc]

section
variable{P:Program}{w0 w w':World}{l0:Nat->Option Nat}{G:Nat->Option (Nat×Nat)}{S0:Nat->Option Value}{lev lev' own own':Nat->Option Nat}{S S':Nat->Option Value}{env env':Env}{tm tm':Nat->Value}

def Inv.akH{m:Nat}(hm:m<=16){m9:Nat->Option Nat}{E:Env}(h:Inv w0 l0 G S0 w lev own S env tm)(L:LeE m m9 env E):∃own' S',(∀i,i<m->E.o i≠.undef->S' i=S0 i)/\(∀s,aM (cx w lev S') (tm s) (E.t s))/\∀r,nj w0.heap.size G w lev own' S' r (E.o r):=by
 let S':Nat->Option Value:=λs=>if fc (E.o s)then none else match m9 s with
  |some r=>S r
  |none=>some (.slice none 0 0)
 let own':Nat->Option Nat:=λb=>(own b).bind λr=>open Classical in if h:∃s,E.o s≠.undef/\m9 s=some r then some (Classical.choose h)else none
 have Q:∀s r,m9 s=some r->(!fc (E.o s))=true->∀u,S r=some u->S' s=some u:=by
  intro s r g f u q;simp only[gD]at f;simp only[S',f,g,Bool.false_eq_true,if_false];exact q
 have hN:∀s,m9 s=none->(!fc (E.o s))=true->S' s=some (.slice none 0 0):=by
  intro s g f;simp only[gD]at f;simp only[S',f,g,Bool.false_eq_true,if_false]
 have p:∀{v:Value} {d Z:D},aM (cx w lev S) v d->mg m9 (λs=>!fc (E.o s)) d Z->aM (cx w lev S') v Z:=λg hd=>mg.rep (C:=cx w lev S) (C':=cx w lev S') (λ_ _ h=>h) Q hN g hd;refine⟨own',S',?_,?_,?_⟩
 ·intro i R I;have g:=L.RI i R I;have k:=L.objs i I;rw[g]at k;have X:env.o i≠.undef:=by
   intro e;simp only[e]at k;cases y:E.o i<;>rw[y]at k<;>exact k.elim
  have f:fc (E.o i)=false:=by
   cases y:fc (E.o i)with
   |false=>rfl
   |true=>exact(I (yF.1 y)).elim
  simp only[S',f,g,Bool.false_eq_true,if_false];exact h.RI i (by omega) X
 ·intro s;exact p (h.pK s) (L.pK s)
 ·intro s;by_cases q:E.o s=.undef
  ·rw[q];show S' s=none;simp[S',q,fc]
  have f:(!fc (E.o s))=true:=by
   cases y:fc (E.o s)with
   |false=>rfl
   |true=>exact(q (yF.1 y)).elim
  have k:=L.objs s q;cases g:m9 s with
  |none =>
   rw[g]at k;obtain⟨z,hz⟩:=k;have hn:=hN s g f;rw[hz];exact .inl ⟨none,hn,rfl⟩
  |some r =>
   rw[g]at k;simp only at k;have A:=h.objs r;have n:∀b,own b=some r->own' b=some s:=by
    intro b hb;simp only[own',hb,Option.bind_some];have J:∃s,E.o s≠.undef/\m9 s=some r:=⟨s,q,g⟩
    rw[dif_pos J];have hc:=Classical.choose_spec J;rw[L.inj _ _ r hc.1 q hc.2 g]
   cases hE:E.o s<;>rw[hE]at k<;>cases I:env.o r<;>rw[I]at k A<;>simp only[Vg]at k
   ·obtain⟨rfl,rfl⟩:=k;rename_i z rows;rcases A with⟨a,F,H⟩| ⟨b,c,T,cap,F,H,h3,U,V,O,W,h8,h9,h10⟩
    ·exact .inl ⟨a,Q s r g f _ F,H⟩
    ·refine .inr ⟨b,c,T,cap,Q s r g f _ F,H,h3,U,V,O,W,n b h8,h9,?_⟩;intro i j N d R hj;obtain⟨u,B,Y⟩:=h10 i j N d R hj;exact⟨u,B,Y.jc (.refl _ _) (by rw[(O N (fO R) d (fO hj)).2];simp)⟩
   ·rename_i a b';obtain⟨l,K⟩:=Co k;obtain⟨b,o,c,T,F,H,h3,U,V,O,W⟩:=A;refine⟨b,o,c,T,Q s r g f _ F,H,by omega,U,n b V,by rw[<-l];exact O,?_⟩;intro j u x B y;have M:j<b'.length:=by rw[l];exact(gU.1 y).1
    exact p (W j u _ B (fj M)) (K j _ x (fj M) y)
def Inv.le{m9:Nat->Option Nat}{E:Env}(h:Inv w0 l0 G S0 w lev own S env tm)(d:LeE 16 m9 env E):∃own' S',Inv w0 l0 G S0 w lev own' S' E tm:=by
 obtain⟨own',S',a,b,c⟩:=h.akH (fS _) d;exact⟨own',S',h.os,h.tape,h.output,h.size,h.old,h.part,h.priv,h.kR,a,b,c⟩
end

def look:List (Nat×D)->Nat->D
 | [],_=>.undef
 |x::r,j=>if j=x.1 then x.2 else look r j
def sM(ts os:List (Nat×D)):Env:=⟨look ts,look os⟩
mutual
def xV:D->D->List (Nat×Option Nat)
 | .ref s,.ref r=>[(s,some r)]
 | .ref s,.nil=>[(s,none)]
 | .addr s _,.addr r _=>[(s,some r)]
 | .cw s _ _ _,.cw r _ _ _=>[(s,some r)]
 | .gq s _ _ _,.gq r _ _ _=>[(s,some r)]
 | .eC s _ _ _ _,.eC r _ _ _ _=>[(s,some r)]
 | .agg a,.agg b=>CG a b
 | .bI a,.bI b=>CG a b
 | .fn _ a,.fn _ b=>CG a b
 | .box a,.box b=>CG a b
 | _,_=>[]
def CG:List D->List D->List (Nat×Option Nat)
 |a::x,b::y=>xV a b++CG x y
 | _,_=>[]
end
def m9(l:List (Nat×Option Nat))(s:Nat):Option Nat:=
 match l with
 | []=>some s
 |x::r=>if s=x.1 then x.2 else m9 r s
def Ss(e:Env):List (Nat×D)->List (Nat×Option Nat)
 | []=>[]
 |x::r=>xV x.2 (e.t x.1)++Ss e r
def oAt(e:Env):Option Nat->D
 |some r=>e.o r
 |none=>.undef
def VT(e:Env)(l:List (Nat×Option Nat)):List (Nat×D)->List (Nat×Option Nat)
 | []=>[]
 |x::r=>xV x.2 (oAt e (m9 l x.1))++VT e l r
def Ri(os:List (Nat×D))(s:Nat):Bool:=
 match os with
 | []=>false
 |x::r=>if s=x.1 then true else Ri r s
def Uu(e:Env)(a:Nat->Option Nat)(os:List (Nat×D)):List (Nat×D)->Prop
 | []=>True
 |x::r=>mg a (Ri os) (e.t x.1) x.2/\Uu e a os r
def Ho:D->Prop
 | .own _ rows=>rows=[]
 | _=>False
def L7(e:Env)(a:Nat->Option Nat)(os:List (Nat×D))(d:D):Option Nat->Prop
 |some r=>Vg a (Ri os) (e.o r) d
 |none=>Ho d
def lu(o:Option Nat)(b:Nat->Option Nat):List (Nat×D)->Prop
 | []=>True
 |x::r=>(match o with
  |some a=>b x.1≠some a
  |none=>True)/\lu o b r
def KH(m s:Nat)(o:Option Nat):Prop:=m<=s\/o=some s
def Js(m:Nat)(e:Env)(a:Nat->Option Nat)(os:List (Nat×D)):List (Nat×D)->Prop
 | []=>True
 |x::r=>Ri r x.1=false/\L7 e a os x.2 (a x.1)/\lu (a x.1) a r/\KH m x.1 (a x.1)/\Js m e a os r
def LeR(m:Nat)(e:Env)(ts os:List (Nat×D))(l:List (Nat×Option Nat)):Prop:=Uu e (m9 l) os ts/\Js m e (m9 l) os os
def LeP(m:Nat)(e:Env)(ts os:List (Nat×D))(l:List (Nat×Option Nat)):Prop:=LeR m e ts os (l++VT e l os)
def WZ(m:Nat)(e:Env)(ts os:List (Nat×D)):Prop:=LeP m e ts os (Ss e ts)
def Jr(e:Env)(ts os:List (Nat×D)):Prop:=WZ 16 e ts os

theorem X0{os:List (Nat×D)}{e:Env}{g:Nat->Option Nat}{c:List (Nat×D)}{m:Nat}(h:Js m e g c os)(s:Nat):Ri os s = !fc (look os s):=by
 induction os with
 |nil=>rfl
 |cons x r ih =>
  obtain⟨h1,a,h3,h4,i⟩:=h;simp only[Ri,look];by_cases d:s=x.1
  ·subst d;simp only[if_true];cases f:g x.1 with
   |none=>rw[f]at a;cases b:x.2<;>rw[b]at a<;>simp[L7,Ho]at a<;>rfl
   |some r=>rw[f]at a;cases b:x.2<;>rw[b]at a<;>cases j:e.o r<;>simp only[L7,j,Vg]at a<;>rfl
  ·simp only[au d];exact ih i
def JH{b:Nat->Option Nat}{a:Nat->Bool}(d:D):mg b a d .undef:=by cases d<;>simp[mg]
def WZ.le{m:Nat}{e:Env}{ts os:List (Nat×D)}(h:WZ m e ts os):∃d,LeE m d e (sM ts os):=by
 unfold WZ LeP LeR at h;generalize m9 _=d at h;obtain⟨C,f⟩:=h;have g:Ri os=λs=>!fc ((sM ts os).o s):=by funext s;exact X0 f s
 refine⟨d,?_,?_,?_,?_⟩
 ·intro j;rw[<-g];show mg d (Ri os) (e.t j) (look ts j);clear g f;induction ts with
  |nil=>exact JH _
  |cons x r ih =>
   simp only[look];by_cases i:j=x.1
   ·subst i;simp only[if_true];exact C.1
   ·simp only[au i];exact ih C.2
 ·intro s c;rw[<-g];show match d s with|some r=>Vg d (Ri os) (e.o r) (look os s)|none=>∃z,look os s=.own z []
  have b:look os s≠.undef:=c;clear g C c
  suffices hh:∀a:List (Nat×D),Js m e d os a->look a s≠.undef->match d s with|some r=>Vg d (Ri os) (e.o r) (look a s)|none=>∃z,look a s=.own z []from hh os f b
  intro a;induction a with
  |nil=>intro _ h;exact(h rfl).elim
  |cons x r ih =>
   intro f b;obtain⟨F,k,g3,n,u⟩:=f;simp only[look]at b |-
   by_cases i:s=x.1
   ·subst i;simp only[if_true];cases y:d x.1 with
    |none =>
     rw[y]at k;cases I:x.2<;>rw[I]at k<;>simp only[L7,Ho]at k;subst k;exact⟨_,rfl⟩
    |some r'=>rw[y]at k;exact k
   ·simp only[au i]at b |-;exact ih u b
 ·intro s p r c b y A;have c:look os s≠.undef:=c;have b:look os p≠.undef:=b
  suffices hh:∀a:List (Nat×D),Js m e d os a->look a s≠.undef->look a p≠.undef->s=p from hh os f c b
  have v:∀(a:List (Nat×D))(t:Nat),look a t≠.undef->d t=some r->¬lu (some r) d a:=by
   intro a t;induction a with
   |nil=>intro h;exact(h rfl).elim
   |cons x q ih =>
    intro E B H;simp only[look]at E;by_cases i:t=x.1
    ·subst i;exact H.1 B
    ·simp only[au i]at E;exact ih E B H.2
  intro a;induction a with
  |nil=>intro _ h;exact(h rfl).elim
  |cons x q ih =>
   intro f c b;obtain⟨F,k,g3,n,u⟩:=f;simp only[look]at c b;by_cases l:s=x.1
   ·by_cases e2:p=x.1
    ·exact l.trans e2.symm
    ·simp only[au e2]at b;subst l;rw[y]at g3;exact(v q p b A g3).elim
   ·by_cases e2:p=x.1
    ·simp only[au l]at c;subst e2;rw[A]at g3;exact(v q s c y g3).elim
    ·simp only[au l]at c;simp only[au e2]at b;exact ih u c b
 ·intro s hlt c;have c:look os s≠.undef:=c
  suffices hh:∀a:List (Nat×D),Js m e d os a->look a s≠.undef->d s=some s from hh os f c
  intro a;induction a with
  |nil=>intro _ h;exact(h rfl).elim
  |cons x q ih =>
   intro f c;obtain⟨F,k,g3,n,u⟩:=f;simp only[look]at c;by_cases l:s=x.1
   ·subst l;rcases n with n|n
    ·omega
    ·exact n
   ·simp only[au l]at c;exact ih u c
def Jr.le{e:Env}{ts os:List (Nat×D)}(h:Jr e ts os):∃a,LeE 16 a e (sM ts os):=WZ.le h
end Go.Abs
namespace Go.Abs

def Enters (P : Program) (f : FuncId) : Prop := ∃ fn, P.funcs[f]? = some fn /\ fn.body.isSome = true /\ (fn.name == "runtime.NumGoroutine") = false

def Spec(P:Program)(f:FuncId)(o ds l:List D)(d:D):Prop:=
 Enters P f/\∀(w:World)(j:Nat->Option Nat)(h:Nat->Option (Nat×Nat))(g:Nat->Option Nat)(k:Nat->Option Value)(vs:Array Value),Xd w h->(∀b m,j b=some m->b<w.heap.size)->(∀b lo n,h b=some (lo,n)->ny w w b lo n)->vs.size=ds.length ->
  (∀(i:Nat) v x,vs[i]?=some v->ds[i]?=some x->aM (cx w j k) v x)->(∀r,nj w.heap.size h w j g k r (o.getD r .undef))->Calls P f vs w λe w'=>∃v,e=.returned v/\Out o.length l w j h k w' v d

def BN(P:Program)(f:FuncId)(o ds:List D)(Φ:List D->D->Prop):Prop:=
 Enters P f/\∀(w:World)(k:Nat->Option Nat)(j:Nat->Option (Nat×Nat))(h:Nat->Option Nat)(l:Nat->Option Value)(vs:Array Value),Xd w j->(∀b m,k b=some m->b<w.heap.size)->(∀b lo n,j b=some (lo,n)->ny w w b lo n)->vs.size=ds.length ->
  (∀(i:Nat) v x,vs[i]?=some v->ds[i]?=some x->aM (cx w k l) v x)->(∀r,nj w.heap.size j w k h l r (o.getD r .undef))->Calls P f vs w λe w'=>∃v g d,Φ g d/\e=.returned v/\Out o.length g w k j l w' v d

def iz(g:Bool)(ok:Prop)(v:D)(k:D->Prop):Prop:=(g=true->ok)/\k (gd g v)
def Norm(v:D)(k:D->Prop):Prop:=k v
def GK(g:Bool)(a b:Prop):Prop:=(g=true->a)/\(g=false->b)

def oJ(P:Program)(e:Env)(d:Nat)(args:List Operand)(gs:List Nat)(bw:Bool)(f:List D)(g:D)(K:Env->Prop)(i:D):Prop:=
 match i with
 | .fn k caps=>gs.Nodup/\(∀r∈gs,e.o r≠.undef)/\(∀r∈l6 d 0 (f.length-gs.length),e.o r=.undef)/\(gs.length<=f.length/\f.length<=gs.length+16)/\(bw=true->sO g/\∀h∈f,xg h) /\
   Spec P k (gs.map λr=>yu bw gs e.o 4 (e.o r)) ((args.map (rd e)++caps).map (conv bw gs e.o 4)) f g/\K (eK e d gs f g)
 | _=>False
def F9(P:Program)(e:Env)(d:Nat)(args:List Operand)(gs:List Nat)(bw:Bool)(Φ:List D->D->Prop)(K:Env->Prop)(i:D):Prop:=
 match i with
 | .fn k caps=>gs.Nodup/\(∀r∈gs,e.o r≠.undef)/\BN P k (gs.map λr=>yu bw gs e.o 4 (e.o r)) ((args.map (rd e)++caps).map (conv bw gs e.o 4)) Φ /\
   ∀f g,Φ f g->(∀r∈l6 d 0 (f.length-gs.length),e.o r=.undef)/\(gs.length<=f.length/\f.length<=gs.length+16)/\(bw=true->sO g/\∀h∈f,xg h)/\K (eK e d gs f g)
 | _=>False
def KW(dr:Bool)(K:Env->Prop)(e:Env):Prop:=K e\/(dr=false/\∃ts os,Jr e ts os/\K (sM ts os))
variable{K' K:Env->Prop}
def KW.mono{dr:Bool}(h:∀e,K e->K' e)(e:Env)(d:KW dr K e):KW dr K' e:=
 d.imp (h e) λ⟨hd,ts,os,hl,d⟩=>⟨hd,ts,os,hl,h _ d⟩
variable{e:Env}
def KW.drawn(d:KW true K e):K e:=d.elim id λh=>(wG h.1.symm).elim
variable{b c:D}{a:List D}{P:Program}
def td{d:Nat}{args:List Operand}{gs:List Nat}{bw:Bool}(h:∀e,K e->K' e)(f:oJ P e d args gs bw a b K c):oJ P e d args gs bw a b K' c:=by
 unfold oJ at f |-;split at f
 ·exact⟨f.1,f.2.1,f.2.2.1,f.2.2.2.1,f.2.2.2.2.1,f.2.2.2.2.2.1,h _ f.2.2.2.2.2.2⟩
 ·exact f.elim
def BL(P:Program)(dr:Bool)(e:Env)(d:Nat)(f:Operand)(args:List Operand)(K:Env->Prop):Prop:=
 ∃(fz gs:List Nat)(bw:Bool)(g:List D)(h:D),(dr=true->fz=[]/\gs=[])/\oJ P (ia fz e) d args gs bw g h (KW dr K) (rd (ia fz e) f)

def StB(P:Program)(e:Env)(t:TypeId)(r off:Nat)(v:D)(K:Env->Prop)(d:D):Prop:=
 match d with
 | .box cs=>match iF P t with
  |some l=>off+l.sz<=cs.length/\v.cells.length=l.sz/\(∀c∈v.cells,gl c)/\K (dU e r (.box (nR cs off v.cells)))
  |none=>False
 | _=>False
def StO(P:Program)(e:Env)(t:TypeId)(r z i k:Nat)(v:D)(K:Env->Prop)(d:D):Prop:=
 match d with
 | .own z' rows=>match iF P t with
  |some l=>z'=z/\i<rows.length/\k+l.sz<=z/\v.cells.length=l.sz/\(∀c∈v.cells,dK c)/\K (dU e r (.own z (rows.set i (nR (rows.getD i []) k v.cells))))
  |none=>False
 | _=>False
def Uv(P:Program)(e:Env)(t:TypeId)(a:D)(K:Env->Prop)(v:D):Prop:=
 match a with
 | .addr r off=>StB P e t r off v K (e.o r)
 | .cw r z i k=>StO P e t r z i k v K (e.o r)
 | _=>False

def ZW(e:Env)(d:Nat)(K:Env->Prop)(v:D):Prop:=
 (∀c∈v.cells,gl c)/\e.o (nm d 0)=.undef/\K (ck (dU e (nm d 0) (.box v.cells)) d (.addr (nm d 0) 0))
def Up(e:Env)(d:Nat)(K:Env->Prop)(z:Option (List D)):Prop:=
 match z with
 |some z=>e.o (nm d 0)=.undef/\K (ck (dU e (nm d 0) (.box z)) d (.addr (nm d 0) 0))
 |none=>False

def gy(P:Program)(t:TypeId):Option (List D):=
 match P.underlying t with
 |some (.slice e)=>nw P e
 | _=>none
def lU(e:Env)(z:Nat)(parts:List (Nat×Operand)):List (Nat×Nat×D):=parts.map λx=>(x.1*z,z,rd e x.2)
def BV(zc:List D)(e:Env)(z len:Nat)(parts:List (Nat×Operand)):List D:=
 nN (List.replicate len zc).flatten (lU e z parts)
def Rj(e:Env)(len:Nat)(parts:List (Nat×Operand))(d:Nat)(K:Env->Prop)(t:Ty)(zc:Option (List D)):Prop:=
 match t,zc with
 | .slice z _ _,some zc=>len*z<=2^24/\zc.length=z/\qx (len*z) (lU e z parts)/\(∀c∈BV zc e z len parts,dK c)/\e.o (nm d 0)=.undef /\
   K (ck (dU e (nm d 0) (.own z (rowsOf z len (BV zc e z len parts)))) d (.ref (nm d 0)))
 | _,_=>False
def sH(e:Env)(parts:List (Nat×Operand)):List Nat:=D.bW (parts.map λx=>rd e x.2)

def sC(z:Nat):D->Option (List (List D))
 | .sl z' rows=>if z'=z then some rows else none
 | .nil=>some []
 | .emp=>some []
 | _=>none
def Uq(e:Env)(z g d:Nat)(f:List (List D))(K:Env->Prop)(r:Nat)(h:D):Prop:=
 match h with
 | .own z' rows=>z'=z/\(g+1)*(rows.length+f.length)<=2^45/\(lp r e).o (nm d 0)=.undef/\K (ck (dU (lp r e) (nm d 0) (.own z (rows++f))) d (.ref (nm d 0)))
 | _=>False
def AP(e:Env)(z f d:Nat)(K:Env->Prop)(v:D)(y:Option (List (List D))):Prop:=
 match v,y with
 | .nil,some rows2=>(f+(1-f))*rows2.length<=2^47/\e.o (nm d 0)=.undef/\K (ck (dU e (nm d 0) (.own z rows2)) d (.ref (nm d 0)))
 | .emp,some rows2=>(f+(1-f))*rows2.length<=2^47/\e.o (nm d 0)=.undef/\K (ck (dU e (nm d 0) (.own z rows2)) d (.ref (nm d 0)))
 | .ref r,some rows2=>Uq e z f d rows2 K r (e.o r)
 | _,_=>False
def tc(e:Env)(d:Nat)(K:Env->Prop)(x y:D)(t t2:Ty):Prop:=
 match t,t2 with
 | .slice z by_ _,.slice _ _ _=>by_<=2^32/\AP e z by_ d K x (sC z (pP e.o [] 2 y))
 | _,_=>False

def WE(e:Env)(d:Nat)(K:Env->Prop)(l c:D)(t:Ty)(zc:Option (List D)):Prop:=
 match t,l,c,zc with
 | .slice z by_ _,.int _ n,.int _ m,some zc=>0<=n/\n<=m/\m<=2^40/\by_*m<=2^47/\zc.length=z/\(∀d∈zc,dK d)/\e.o (nm d 0)=.undef /\
   K (ck (dU e (nm d 0) (.own z (List.replicate n.toNat zc))) d (.ref (nm d 0)))
 | _,_,_,_=>False

def Cont(n:Nat)(i:World)(h:Nat->Option Nat)(G:Nat->Option (Nat×Nat))(g:Nat->Option Value)(K:Env->Prop)(next:Act->World->Prop):Prop:=
 ∀(f:Env) lev' own' S' w' (d:Act),d.tmps.size=n->d.defers=[]->Inv i h G g w' lev' own' S' f (ni d.tmps)->K f->next d w'
def gM(P:Program)(n:Nat)(o:Oper)(e:Env)(K:Env->Prop):Prop:=
 ∀(g:World)(f:Nat->Option Nat)(G:Nat->Option (Nat×Nat))(d:Nat->Option Value)(w:World)(lev own:Nat->Option Nat)(S:Nat->Option Value)(a:Act)(next:Act->World->Prop)(Q:Exit->Act->World->Prop),
  Inv g f G d w lev own S e (ni a.tmps)->a.tmps.size=n->a.defers=[]->Cont n g f G d K next->o.wp P a w next Q
def gM.mono{n:Nat}{o:Oper}(r:∀e,K e->K' e)(h:gM P n o e K):gM P n o e K':=
 λu t G d w lev own S a next Q q s p m=>h u t G d w lev own S a next Q q s p λg lev' own' S' w' f i j k l=>m g lev' own' S' w' f i j k (r _ l)
def XV:Operand->Bool
 | .const (.slice none 0 0)=>true
 | _=>false
def af4:Nat:=999999
def hard(o:Oper):Bool:=
 match o.op with
 | .buildSlice t _ _=>t==af4
 | .call c=>(match c.callee with
  | .builtin .copy=>true
  | .builtin .clear=>true
  | .builtin .cap=>true
  | _=>false)
 | .binOp _ _ _ y _=>XV y
 | .slice _ _ lo _ mx=>mx.isSome&&lo.isSome
 | _=>false
def Dj(e:Env)(d:Nat)(K:Env->Prop)(S:Prop)(x y:D)(t t2:Ty):Prop:=
 match x,y with
 | .eC _ _ _ _ _,_=>S
 | _,.int _ _=>S
 |x,y=>tc e d K x y t t2

def jD(P:Program)(n:Nat)(dr:Bool)(o:Oper)(e:Env)(g:Bool)(K:Env->Prop):Prop:=
 match o.op,o.dst with
 | .store t a x,none=>g=true/\Norm (rd e a) λa=>Norm (rd e x) (Uv P e t a K)
 | .box _ x,some d=>g=true/\d<n/\Norm (rd e x) (ZW e d K)
 | .alloc t,some d=>g=true/\d<n/\Up e d K (nw P t)
 | .buildSlice t len parts,some d=>d<n/\GK g ((dr=true->sH e parts.toList=[])/\Rj (ia (sH e parts.toList) e) len parts.toList d K (eH P t) (gy P t)) (K (ck e d (.bI [])))
 | .makeSlice t l c,some d=>d<n/\GK g (WE e d K (rd e l) (rd e c) (eH P t) (gy P t)) (K (ck e d (.bI [])))
 | .call c,some d=>d<n/\(match c.callee with
  | .builtin .append=>g=true/\dr=false/\(match c.args.toList,c.argTypes.toList with
   | [x,y],[T,T2]=>Dj e d K (gM P n o e K) (rd e x) (rd e y) (eH P T) (eH P T2)
   | _,_=>False)
  | .builtin _=>iz g (dO P e o.op) (gB P e o.op) λu=>K (ck e d u)
  | .value f=>GK g (BL P dr e d f c.args.toList K\/(dr=false/\gM P n o e K)) (K (ck e d (.bI [])))
  | .invoke _ _=>False)
 |op,some d=>d<n/\iz g (dO P e op) (gB P e op) λu=>K (ck e d u)
 | _,none=>False

def l9(P:Program)(n:Nat)(dr:Bool)(o:Oper)(e:Env)(g:Bool)(K:Env->Prop):Prop:=if hard o then g=true/\dr=false/\gM P n o e K else jD P n dr o e g K

def xJ:List Oper->Nat->Option Tmp
 | [],_=>none
 |o::_,0=>o.dst
 | _::r,n+1=>xJ r n
def L0(w:Bool):D->Option Bool
 | .bool b=>some (b==w)
 | .bI []=>some false
 | _=>none
def tE(ops:List Oper)(e:Env):Option (Nat×Bool)->Option Bool
 |none=>some true
 |some (j,w)=>match xJ ops j with
  |some t=>L0 w (rd e (.tmp t))
  |none=>some false
def wpOp(P:Program)(n:Nat)(ops:List Oper)(o:Oper)(e:Env)(K:Env->Prop):Prop:=
 match tE ops e o.guard with
 |some g=>l9 P n false o e g K
 |none=>False
def wpList(P:Program)(n:Nat)(ops:List Oper):List Oper->Env->(Env->Prop)->Prop
 | [],e,K=>K e
 |o::r,e,K=>wpOp P n ops o e λd=>wpList P n ops r d K
end Go.Abs
namespace Go.Abs
open List

def Ei{x:Int}(h1:-9223372036854775808<=x)(h2:x<9223372036854775808):IntKind.i64.wrap x=x:=by
 simp[IntKind.wrap,IntKind.signed,IntKind.bits];split<;>omega
theorem GX{zc:List D}{z:Nat}(k:zc.length=z)(j:z≠0):∀(n m:Nat),m<n*z->(replicate n zc).flatten[m]?=zc[m%z]?
 | 0,m,h=>by simp at h
 |n+1,m,h=>by
  rw[replicate_succ,flatten_cons];by_cases p:m<z
  ·rw[getElem?_append_left (by omega),Nat.mod_eq_of_lt p]
  ·rw[getElem?_append_right (by omega),k,GX k j n (m-z) (by rw[Nat.succ_mul]at h;omega)];congr 1;rw[<-Nat.mod_eq_sub_mod (by omega)]
variable{zc:List D}{z:Nat}
def Ew(h:zc.length=z)(n:Nat):(replicate n zc).flatten.length=n*z:=by
 simp[length_flatten,h]

section
variable{P:Program}
theorem uv{e:TypeId}(h:nw P e=some zc)(w:World):∃k,(zeroValue e).run P w=.ok k w/\k.cells.size=zc.length/\∀(V:Cx)(i:Nat) v d,k.cells[i]?=some v->zc[i]?=some d->aM V v d:=by
 unfold nw at h;cases p:P.info? e with
 |none=>rw[p]at h;cases h
 |some inf =>
  simp only[p]at h;cases j:inf.zero with
  |none=>rw[j]at h;cases h
  |some k =>
   rw[j]at h;cases h;refine⟨k,by simp[zeroValue,Sem.run_bind,pF p,j,Sem.run,pure],by simp,?_⟩;intro V i v d q m;simp only[getElem?_map]at m;have:k.cells.toList[i]?=some v:=by simpa using q
   rw[this]at m;simp at m;subst m;exact uI v

end

variable{d:Nat}{o:Oper}{next:Act->World->Prop}{a:Act}{u v:Value}{Q:Exit->Act->World->Prop}{K:Env->Prop}{w':World}{e b:Env}{Φ:List D->D->Prop}{gs fz:List Nat}{f x:Operand}{dr bw:Bool}{c:Call}{i g:D}{t T:TypeId}{l:Array (Nat×Operand)}
section
variable{P:Program}{n:Nat}{w0 w w':World}{l0:Nat->Option Nat}{G:Nat->Option (Nat×Nat)}{S0:Nat->Option Value}{lev lev' own own':Nat->Option Nat}{S S':Nat->Option Value}{env env':Env}{tm tm':Nat->Value}{B:Nat}{gs:List Nat}{bw:Bool}

def upon_value(j:o.dst=some d)(k:(execOp a.eval o).run P w=.ok (.value u) w')
  (h:next { a with tmps:=a.tmps.setIfInBounds d u } w'):o.wp P a w next Q:=by
 unfold Oper.wp;rw[k];simp only[Oper.upon,j,Act.put];exact h
def iT(p:a.tmps.size=n)(j:a.defers=[])(h:Cont n w0 l0 G S0 K next)(hd:d<n)
  {lev' own':Nat->Option Nat} {S':Nat->Option Value} (m:Inv w0 l0 G S0 w' lev' own' S' e (FD (ni a.tmps) d u)) (k:K e):next { a with tmps:=a.tmps.setIfInBounds d u } w':=
 h e lev' own' S' w' _ (by simpa using p) j (by rw[Zn (by omega)];exact m) k

def Om(h:Inv w0 l0 G S0 w lev own S env (ni a.tmps))(hn:a.tmps.size=n)(hdf:a.defers=[])(hcal:c.callee=.value f)(hd:d<n)(hop:o.op=.call c)(hdst:o.dst=some d)
  (hnext:Cont n w0 l0 G S0 K next) (hk:F9 P (ia fz env) d c.args.toList gs bw Φ (KW dr K) (rd (ia fz env) f)):o.wp P a w next Q:=by
 obtain⟨lev1,S1,h1⟩:=Inv.XP fz h (λ_ _=>trivial);generalize ia fz env=env1 at h1 hk;unfold F9 at hk;have hof:=h1.BJ a rfl f;split at hk<;>try exact hk.elim
 rename_i k caps hf;rw[hf]at hof;obtain⟨hnd,hlive,⟨hent,hsp⟩,hall⟩:=hk;obtain⟨cv,hv,hcs,hcc⟩:=hof.AZ;obtain⟨fn,e1,e2,e3⟩:=hent
 let vs:Array Value:=c.args.map a.eval++cv
 have hr:(execOp a.eval o).run P w=.ok (.enter k vs) w:=by
  have e3' : fn.name ≠ "runtime.NumGoroutine" := by simpa using e3
  have e2':fn.body≠none:=by rintro e;rw[e]at e2;cases e2
  simp[execOp,hop,resolve,hcal,hv,Deferred.ofValue,Sem.run_bind,invoke,callFunc,program,e1,e3',e2',Sem.run,pure,vs]
 have hrep:∀(i:Nat) v x,vs[i]?=some v->(c.args.toList.map (rd env1)++caps)[i]?=some x->aM (cx w lev1 S1) v x:=by
  intro i v x hi hx;have hl:(c.args.map a.eval).size=(c.args.toList.map (rd env1)).length:=by simp
  by_cases hlt:i<(c.args.map a.eval).size
  ·simp only[vs]at hi;rw[Array.getElem?_append_left hlt]at hi;rw[getElem?_append_left (by rw[<-hl];exact hlt)]at hx;simp only[Array.getElem?_map,getElem?_map]at hi hx;have hx':c.args[i]?=c.args.toList[i]?:=by simp
   rw[hx']at hi;cases hy:c.args.toList[i]? with
   |none=>rw[hy]at hi;cases hi
   |some y =>
    rw[hy]at hi hx;cases hi;cases hx;exact h1.BJ a rfl y
  ·simp only[vs]at hi;rw[Array.getElem?_append_right (by omega)]at hi;rw[getElem?_append_right (by rw[<-hl];omega)]at hx;rw[<-hl]at hx;exact hcc _ v x hi hx
 have hsz:vs.size=((c.args.toList.map (rd env1)++caps).map (conv bw gs env1.o 4)).length:=by simp[vs,hcs]
 have hc:=hsp w (u6 bw gs lev1 own) (sD gs S1 env1.o) (MX gs own) (BM gs S1) vs
  (by
   intro t ht;obtain⟨t1,E,x,c9,t2,t3⟩:=h1.os.2 t ht;have hlt:=lt_of_block t2;refine⟨?_,E,x,c9,(h1.old _ hlt t1).trans t2,t3⟩;cases hg:sD gs S1 env1.o t.1 with
   |none=>rfl
   |some p =>
    obtain⟨lo,hi⟩:=p;obtain⟨r,hr,u,hu,hbk⟩:=FE hg;obtain⟨_,_,hin,_⟩:=(h1.objs r).blk hu hbk;rcases hin with hin| ⟨_,_,hin,_⟩
    ·omega
    ·rw[t1]at hin;cases hin)
  (by
   intro b m hb;rcases TH (bw:=bw) (gs:=gs) (lev:=lev1) (own:=own) b with e|e
   ·rw[e]at hb;exact h1.priv b m hb
   ·rw[e]at hb;cases hb)
  (by
   intro b lo hi hg;obtain⟨r,hr,u,hu,hbk⟩:=FE hg;obtain⟨_,_,_,cc,E,hb⟩:=(h1.objs r).blk hu hbk
   exact⟨cc,cc,E,hb,hb,rfl,λ_ _=>rfl⟩)
  hsz
  (by
   intro i v x hi hx;simp only[getElem?_map]at hx;cases hy:(c.args.toList.map (rd env1)++caps)[i]? with
   |none=>rw[hy]at hx;cases hx
   |some y=>rw[hy]at hx;cases hx;exact GG h1 4 y v (hrep i v y hi hy))
  (by
   intro r;by_cases hlt:r<gs.length
   ·have hg:gs[r]?=some gs[r]:=fj hlt;have:(gs.map λr=>yu bw gs env1.o 4 (env1.o r)).getD r .undef=yu bw gs env1.o 4 (env1.o gs[r]):=by simp[getD,hg]
    rw[this];exact Xz h1 hnd hg 4 (hlive _ (dS hlt))
   ·have:(gs.map λr=>yu bw gs env1.o 4 (env1.o r)).getD r .undef=.undef:=by simp[getD,hlt]
    rw[this];show BM gs S1 r=none
    simp[BM,hlt])
 unfold Oper.wp;rw[hr];simp only[Oper.upon];refine hc.mono ?_;rintro e w' ⟨v,hs',dv,hΦ,rfl,hout⟩;obtain⟨hfresh,hlen,hperm,hK⟩:=hall hs' dv hΦ;simp only[length_map]at hout;obtain⟨lev',own',S',hi⟩:=h1.call (d:=d) hnd hlive hfresh hlen.1 hperm hout;simp only[hdst,Act.put];rcases hK with hK| ⟨_,ts,os,hl,hK⟩
 ·exact iT hn hdf hnext hd hi hK
 ·obtain⟨rh,hle⟩:=hl.le;obtain⟨own2,S2,hi2⟩:=hi.le hle;exact iT hn hdf hnext hd hi2 hK

def oJ.toE{args:List Operand}(h:oJ P e d args gs bw zc g K i):F9 P e d args gs bw (λa b=>a=zc/\b=g) K i:=by
 unfold oJ at h;unfold F9;split at h<;>try exact h.elim
 obtain⟨r,s,y,A,C,k,D⟩:=h;refine⟨r,s,⟨k.1,?_⟩,?_⟩
 ·intro w l0 m j S0 vs p a2 a3 a4 a5 q;refine(k.2 w l0 m j S0 vs p a2 a3 a4 a5 q).mono ?_;rintro e w' ⟨v,he,ho⟩;exact⟨v,zc,g,⟨rfl,rfl⟩,he,ho⟩
 ·rintro _ _ ⟨rfl,rfl⟩;exact⟨y,A,C,D⟩
def Ry(h:Inv w0 l0 G S0 w lev own S env (ni a.tmps))(y:a.tmps.size=n)(p:a.defers=[])(k:c.callee=.value f)(s:d<n)(r:o.op=.call c)(m:o.dst=some d)
  (j:Cont n w0 l0 G S0 K next) (q:BL P dr env d f c.args.toList K):o.wp P a w next Q:=by
 obtain⟨fz,gs,bw,hs',dv,_,q⟩:=q;exact Om h y p k s r m j q.toE
def Zg(h:Inv w0 l0 G S0 w lev own S env (ni a.tmps))(L:a.tmps.size=n)(s:a.defers=[])
  (m:Cont n w0 l0 G S0 K next) (j:Uv P env t (rd env f) K (rd env x)):∃w',(Instr.storeAt t (a.eval f) (a.eval x)).run P w=.ok () w'/\next a w':=by
 have A:=h.BJ a rfl x;have q:=h.BJ a rfl f;unfold Uv at j;cases J:rd env f<;>rw[J]at j q<;>try exact j.elim
 ·rename_i r off;simp only at j;unfold StB at j;cases y:env.o r<;>rw[y]at j<;>try exact j.elim
  rename_i cs;simp only at j;cases p:iF P t with
  |none=>rw[p]at j;exact j.elim
  |some l =>
   rw[p]at j;obtain⟨C,D,E,F⟩:=j;obtain⟨w',I,H⟩:=h.Zh y p A E D C q;exact⟨w',I,m _ _ _ _ _ a L s H F⟩
 ·rename_i r z i k;simp only at j;unfold StO at j;cases y:env.o r<;>rw[y]at j<;>try exact j.elim
  rename_i z' rows;simp only at j;cases p:iF P t with
  |none=>rw[p]at j;exact j.elim
  |some l =>
   rw[p]at j;obtain⟨rfl,C,D,E,M,F⟩:=j;obtain⟨w',I,H⟩:=h.Zi y p A M E C D q;exact⟨w',I,m _ _ _ _ _ a L s H F⟩

def boxed(h:Inv w0 l0 G S0 w lev own S env tm){vs:Array Value}{cs:List D}(T:TypeId)(m:vs.size=cs.length)(k:∀(j:Nat) u e,vs[j]?=some u->cs[j]?=some e->aM (cx w lev S) u e)(p:env.o (nm d 0)=.undef) :
  ∃lev' own' S',Inv w0 l0 G S0 (w.alloc (.cells vs T)) lev' own' S' (ck (dU env (nm d 0) (.box cs)) d (.addr (nm d 0) 0)) (FD tm d (.pointer (some ⟨w.heap.size,0,none⟩))):=by
 have q:=h.afK (EC d 0) p T m k;refine⟨_,_,_,q.put ?_⟩;have:=aM.addr (C:=cx (w.alloc (.cells vs T)) (lP lev w.heap.size (some 0)) (lP S (nm d 0) (some (.pointer (some ⟨w.heap.size,0,none⟩))))) (nm d 0) 0 ⟨w.heap.size,0,none⟩ (gx _ _ _);simpa[Addr.add]using this
def owned{x:D}(j:Inv w0 l0 G S0 w' lev' own' S' (dU e (nm d 0) x) tm)(h:S' (nm d 0)=some v)(k:∃a l c,v=.slice a l c):Inv w0 l0 G S0 w' lev' own' S' (ck (dU e (nm d 0) x) d (.ref (nm d 0))) (FD tm d v):=by
 obtain⟨a,l,c,rfl⟩:=k;exact j.put (.ref (nm d 0) a l c h)

def UF(h:Inv w0 l0 G S0 w lev own S env (ni a.tmps))(A:a.tmps.size=n)(k:a.defers=[])(m:d<n)
  (j:Cont n w0 l0 G S0 K next) (y:ZW env d K (rd env x)) :
  next { a with tmps:=a.tmps.setIfInBounds d (.pointer (some ⟨w.heap.size,0,none⟩)) } (w.alloc (.cells (a.eval x).cells T)):=by
 obtain⟨p,q,r⟩:=y;obtain⟨c1,c2,c3⟩:=uJ (h.BJ a rfl x) p;obtain⟨_,_,_,s⟩:=boxed h T c1 c3 q;exact iT A k j m s r

def rL(h:Inv w0 l0 G S0 w lev own S env tm)(M:aM (cx w lev S) v g){rows:List (List D)}(E:sC z (pP env.o [] 2 g)=some rows)(S':Nat->Option Value):oL w (cx w lev S') v z rows:=by
 have F:=Ml (gs:=[]) h (λ_=>none) 2 g v M;unfold sC at E;split at E<;>try(cases E;done)
 ·rename_i z' rows' e;rw[e]at F;split at E<;>try(cases E;done)
  rename_i ez;cases E;subst ez;have h1:=oL.akY (w:=w) (λa v=>rM) F;obtain⟨a,cap,rfl,q1,q2,q3,q4,q5⟩:=h1
  -- the cells are read in the caller's own terms
  refine⟨a,cap,rfl,q1,q2,q3,q4,?_⟩;clear F q5;have key:∀g:D,aM (cx w lev S) (.slice a rows.length cap) g->pP env.o [] 2 g=.sl z' rows->∀O,a=some O->∀(i j:Nat) q x,rows[i]?=some q->q[j]?=some x->∃u,w.cell? (O.add (i*z'+j))=some u/\aM (cx w lev S') u x:=by
   intro g M e O N i j q x A I;have s:=q3 q (fO A) x (fO I);cases g with
   |sl z2 rows2 =>
    simp only[pP]at e;cases e;obtain⟨a',y,R,_,_,_,_,U⟩:=M.Bx;cases R;obtain⟨u,J,p⟩:=U O N i j q x A I;exact⟨u,rM J,p.jc (.refl _ _) (by rw[s.2];simp)⟩
   |ref r =>
    simp only[pP,dX,contains_nil,Bool.false_eq_true,if_false]at e;cases C:env.o r<;>rw[C]at e<;>simp only[uz]at e<;>try(cases e;done)
    cases e;obtain⟨a',y,hS,_,_,_,_,U⟩:=h.CD C;obtain⟨m,_⟩:=M.qY;simp only[cx]at m;rw[hS]at m;cases m;obtain⟨u,J,p⟩:=U O N i j q x A I;exact⟨u,J,p.jc (.refl _ _) (by rw[s.2];simp)⟩
   |gq r z lo len =>
    simp only[pP,dX,contains_nil,Bool.false_eq_true,if_false]at e;cases C:env.o r<;>rw[C]at e<;>simp only[nZ]at e<;>try(cases e;done)
    split at e<;>try(cases e;done)
    rename_i hz;obtain⟨rfl,hlen⟩:=hz;cases e;obtain⟨a',y,hS,_,_,_,_,U⟩:=h.CD C;obtain⟨b0,X,L,c0,c1,m,R,Z,_⟩:=M.o8;simp only[cx]at m;rw[hS]at m;cases m;have V:i<len:=by have:=(gU.1 A).1;simp at this;omega
    obtain⟨b,rfl,H⟩:=Z (by omega);have Y:a=X:=by injection R
    rw[Y,H]at N;cases N;rw[getElem?_take_of_lt V,getElem?_drop]at A;obtain⟨u,J,p⟩:=U b rfl (lo+i) j q x A I;refine⟨u,?_,p.jc (.refl _ _) (by rw[s.2];simp)⟩;rw[add_add,<-J];congr 2;rw[Nat.add_mul];omega
   |eC r off z len bcap =>
    simp only[pP,dX,contains_nil,Bool.false_eq_true,if_false]at e;cases C:env.o r<;>rw[C]at e<;>simp only[vA]at e<;>try(cases e;done)
    split at e<;>try(cases e;done)
    cases e;obtain⟨b0,X,c1,m,R,Z,_⟩:=M.j0;have aa:=h.Ku C m;have V:i<len:=by have:=(gU.1 A).1;rw[jo]at this;exact this
    have H:=Z (by omega);have Y:a=X:=by injection R
    rw[Y,H]at N;cases N;have W:=qL _ _ _ _ _ A;subst W;have ab:j<z':=by have:=(gU.1 I).1;simp at this;omega
    rw[getElem?_take_of_lt ab,getElem?_drop,getElem?_drop]at I;obtain⟨u,J,p⟩:=aa _ x I;refine⟨u,?_,p.jc (.refl _ _) (by rw[s.2];simp)⟩;rw[add_add];exact J
   |addr r off=>simp only[pP,dX,contains_nil,Bool.false_eq_true,if_false]at e;unfold nY at e;split at e<;>cases e
   |cw r z i' k=>simp only[pP,dX,contains_nil,Bool.false_eq_true,if_false]at e;unfold vB at e;(split at e<;>try split at e)<;>cases e
   | _=>simp only[pP]at e<;>cases e
  exact key g M e
 ·rename_i e;rw[e]at F;cases E;cases F;exact oL.nil z none
 ·rename_i e;rw[e]at F;cases E;cases F;exact oL.nil z _

def Uy(h:Inv w0 l0 G S0 w lev own S env (ni a.tmps))(hn:a.tmps.size=n)(I:a.defers=[]){T3:TypeId}(hd:d<n)
  (p:Cont n w0 l0 G S0 K next) (k:tc env d K (rd env x) (rd env f) (eH P T) (eH P t)) :
  ∃u w',(Builtin.append_ #[T,t] T3 #[a.eval x,a.eval f]).run P w=.ok u w'/\next { a with tmps:=a.tmps.setIfInBounds d u } w':=by
 have m:=h.BJ a rfl x;have y:=h.BJ a rfl f;unfold tc at k;cases R:eH P T<;>rw[R]at k<;>try exact k.elim
 cases H:eH P t<;>rw[H]at k<;>try exact k.elim
 rename_i z F ea z2 by2 ea2;obtain⟨V,k⟩:=k;have J:∃e,P.underlying t=some (.slice e):=by
  obtain⟨e,_,hu,_⟩:=fR H;exact⟨e,hu⟩
 have s:∀(E:Option Addr)(j:List (List D)),a.eval x=.slice E 0 0->oL w (cx w lev S) (a.eval f) z j->(F+(1-F))*j.length<=2^47->env.o (nm d 0)=.undef->K (ck (dU env (nm d 0) (.own z j)) d (.ref (nm d 0))) ->
   ∃u w',(Builtin.append_ #[T,t] T3 #[a.eval x,a.eval f]).run P w=.ok u w'/\next { a with tmps:=a.tmps.setIfInBounds d u } w':=by
  intro E j A C U W L;obtain⟨v,w',_,_,_,Y,X,M,Z⟩:=h.Tm (N:=nm d 0) (EC d 0) W R J (a:=E) C U T3;rw[A];exact⟨v,w',Y,iT hn I p hd (owned X M Z) L⟩
 unfold AP at k;split at k
 ·rename_i j A C;rw[A]at m;have q:a.eval x=.slice none 0 0:=by generalize a.eval x=v at m;cases m;rfl
  exact s _ _ q (rL h y C S) k.1 k.2.1 k.2.2
 ·rename_i j A C;rw[A]at m;have q:∃E,a.eval x=.slice E 0 0:=by generalize a.eval x=v at m;cases m;exact⟨_,rfl⟩
  obtain⟨E,q⟩:=q;exact s _ _ q (rL h y C S) k.1 k.2.1 k.2.2
 ·rename_i r j A C;rw[A]at m;obtain⟨M,_⟩:=m.qY;unfold Uq at k;cases ho:env.o r<;>rw[ho]at k<;>try exact k.elim
  rename_i z' rows;obtain⟨rfl,U,W,L⟩:=k;obtain⟨v,w',_,_,_,Y,X,O,Z⟩:=h.aab (N:=nm d 0) ho (EC d 0) W R J M (rL h y C S) U V T3;exact⟨v,w',Y,iT hn I p hd (owned X O Z) L⟩
 ·exact k.elim

def Xq(h:Inv w0 l0 G S0 w lev own S b (ni a.tmps))(hn:a.tmps.size=n)(ad:a.defers=[]){len:Nat}(hd:d<n)
  (M:Cont n w0 l0 G S0 K next) (hk:Rj b len l.toList d K (eH P t) (gy P t)) :
  ∃u w',(Instr.buildSlice t len (l.map λx=>(x.1,a.eval x.2))).run P w=.ok u w'/\next { a with tmps:=a.tmps.setIfInBounds d u } w':=by
 unfold Rj at hk;split at hk<;>try exact hk.elim
 rename_i z by_ ea zc hT aa;obtain⟨h24,s,A,I,hf,hK⟩:=hk;obtain⟨e,inf,hu,hl,hin,hb,hz,zv0,hzv0,hzz0⟩:=fR hT;have ah:gy P t=nw P e:=by simp[gy,hu]
 have ag:nw P e=some zc:=by rw[<-ah];exact aa
 obtain⟨U,ai,ab,O⟩:=uv ag w;have H:=Ew s len
 let zs:Array Value:=(Array.range (len*z)).map (λi=>U.cells[i%U.cells.size]!)
 have E:zs.size=len*z:=by simp[zs]
 unfold BV at I hK;obtain⟨m,e1,e2,e3⟩:=IK (V:=cx w lev S) (λi=>some (i*z,z)) (l.map λx=>(x.1,a.eval x.2)).toList (lU b z l.toList) zs (replicate len zc).flatten (by simp[lU]) (by rw[E,H])
  (by
   intro i v x hv hx;have y:i<len*z:=by rw[<-E];exact(Array.getElem?_eq_some_iff.1 hv).1
   rw[GX s hz len i y]at hx;have C:i%z<U.cells.size:=by rw[ab,s];exact Nat.mod_lt _ (Nat.pos_of_ne_zero hz)
   have af:v=U.cells[i%z]:=by
    simp only[zs,Array.getElem?_map]at hv;rw[Array.getElem?_eq_getElem (by simpa using y)]at hv;simp only[Option.map_some,oF,Array.getElem_range]at hv;rw[<-hv,ab,s];simp[C]
   refine O (cx w lev S) (i%z) v x ?_ hx
   rw[af];simp[C])
  (by
   intro k p q hp hq;simp only[Array.toList_map,getElem?_map]at hp;cases N:l.toList[k]? with
   |none=>rw[N]at hp;cases hp
   |some p0 =>
    rw[N]at hp;cases hp;simp only[lU,getElem?_map,N,Option.map_some,oF]at hq;subst hq
    exact⟨rfl,h.BJ a rfl p0.2⟩) (by rw[H];exact A)
 have J:(nN (replicate len zc).flatten (lU b z l.toList)).length=len*z:=by
  have key:∀(qs:List (Nat×Nat×D))(ds:List D),qx ds.length qs->(nN ds qs).length=ds.length:=by
   intro qs;induction qs with
   |nil=>intro ds _;rfl
   |cons q qs ih =>
    intro ds hq;obtain⟨off,sz,x⟩:=q;obtain⟨g1,g2,g3,g4⟩:=hq;have hw:=rO (cs:=ds) (xs:=x.cells) (o:=off) (by omega);rw[nN,ih _ (by rw[hw];exact g4),hw]
  rw[key _ _ (by rw[H];exact A),H]
 have X:∀i j r c,(rowsOf z len (nN (replicate len zc).flatten (lU b z l.toList)))[i]?=some r->r[j]?=some c ->
   (nN (replicate len zc).flatten (lU b z l.toList))[i*z+j]?=some c/\j<z:=by
  intro i j r c y R;rw[qL _ _ _ _ _ y]at R;have Y:j<z:=by
   have:=(gU.1 R).1;simp at this;omega
  rw[getElem?_take_of_lt Y,getElem?_drop]at R;exact⟨R,Y⟩
 have y:=h.MQ (EC d 0) hf (vs:=m) (z:=z) (cap:=len) (rows:=rowsOf z len (nN (replicate len zc).flatten (lU b z l.toList))) e (by rw[e2,J]) (by rw[jo];exact fS _)
  (by
   intro r hr;obtain⟨i,y⟩:=mem_iff_getElem?.1 hr;have ae:i<len:=by
    have:=(gU.1 y).1;rwa[jo]at this
   rw[qL _ _ _ _ _ y,fZ,iN,J];have:(i+1)*z<=len*z:=tj z ae;rw[Nat.succ_mul]at this
   omega)
  (by
   intro r hr c W;obtain⟨i,y⟩:=mem_iff_getElem?.1 hr;rw[qL _ _ _ _ _ y]at W
   exact I c (mem_of_mem_drop (mem_of_mem_take W)))
  (by
   intro i j r c y R;obtain⟨W,_⟩:=X i j r c y R;have C:i*z+j<m.size:=by rw[e2];exact(gU.1 W).1
   exact⟨m[i*z+j],by simp[C],e3 _ _ c (by simp[C]) W⟩)
 refine⟨_,_,?_,iT hn ad M hd (owned y (gx _ _ _) ⟨_,_,_,rfl⟩) hK⟩;rw[jo];have Z:¬len*z>2^24:=by omega
 have L:(newRow e m).run P w=.ok ⟨w.heap.size,0,none⟩ (w.alloc (.cells m e)):=by simp[newRow,newObj,Sem.run,Sem.bind,pure,bind]
 simp only[Instr.buildSlice,Sem.run_bind,bO hu,cY hl,Result.andThen_ok,au Z];by_cases h0:len*z=0
 ·have ac:zs = #[]:=Array.eq_empty_of_size_eq_zero (by rw[E,h0]);have F:Instr.fill (λi=>some (i*z,z)) ((Array.range (len*z)).map (λi=>(#[]:Array Value)[i%(#[]:Array Value).size]!)) (l.map λx=>(x.1,a.eval x.2)).toList=some m:=by
   rw[<-e1,ac,h0,show(Array.range 0:Array Nat) = #[]from rfl];simp
  simp[h0]at F |-;simp[Sem.run_bind,F,L,Sem.run,pure]
 ·have F:Instr.fill (λi=>some (i*z,z)) ((Array.range (len*z)).map (λi=>U.cells[i%U.cells.size]!)) (l.map λx=>(x.1,a.eval x.2)).toList=some m:=e1;rw[au h0];simp only[Sem.run_bind,ai,Result.andThen_ok,pure,Sem.run];rw[F];simp[Sem.run_bind,L,Sem.run,pure]

def Yn(h:Inv w0 l0 G S0 w lev own S env (ni a.tmps))(hn:a.tmps.size=n)(ag:a.defers=[]){l c:Operand}(hd:d<n)
  (D:Cont n w0 l0 G S0 K next) (hk:WE env d K (rd env l) (rd env c) (eH P t) (gy P t)) :
  ∃u w',(Instr.makeSlice t (a.eval l) (a.eval c)).run P w=.ok u w'/\next { a with tmps:=a.tmps.setIfInBounds d u } w':=by
 have Z:=h.BJ a rfl l;have Y:=h.BJ a rfl c;unfold WE at hk;split at hk<;>try exact hk.elim
 rename_i z ad ea k1 len k2 k zc hT ak af aa;rw[ak]at Z;rw[af]at Y;obtain⟨h0,hlc,h40,ae,p,ab,hf,hK⟩:=hk;obtain⟨e,aq,hu,hl,ai,hb,hz,zv0,hzv0,hzz0⟩:=fR hT;have ao:gy P t=nw P e:=by simp[gy,hu]
 have an:nw P e=some zc:=by rw[<-ao];exact aa
 obtain⟨I,ap,ac,H⟩:=uv an w;have V:=Z.eU;have N:=Y.eU;obtain⟨len,rfl⟩:=Int.eq_ofNat_of_zero_le h0;obtain⟨k,rfl⟩:=Int.eq_ofNat_of_zero_le (show 0<=k by omega);have q:len<=k:=by omega
 simp only[Int.toNat_natCast]at hK
 let cells:Array Value:=(Array.range (k*z)).map (λi=>I.cells[i%I.cells.size]!)
 have M:cells.size=k*z:=by simp[cells]
 have hi:=h.MQ (EC d 0) hf (vs:=cells) (z:=z) (cap:=k) (rows:=replicate len zc) e M (by simpa using q) (by intro r hr;rw[(mem_replicate.1 hr).2];exact p)
  (by intro r hr;rw[(mem_replicate.1 hr).2];exact ab) (by
   intro i j r x hi hj;have ah:i<len:=by
    have:=(gU.1 hi).1;simpa using this
   have hr:r=zc:=(mem_replicate.1 (fO hi)).2;subst hr;have y:j<z:=by rw[<-p];exact(gU.1 hj).1
   have aj:i*z+j<len*z:=wS y ah;have U:i*z+j<k*z:=Nat.lt_of_lt_of_le aj (tj z q);have W:(i*z+j)%z=j:=by rw[Nat.add_comm,Nat.add_mul_mod_self_right,Nat.mod_eq_of_lt y]
   have O:j<I.cells.size:=by rw[ac,p];exact y
   refine⟨I.cells[j],?_,H _ j _ x (by simp[O]) hj⟩;simp only[cells,Array.getElem?_map];rw[Array.getElem?_eq_getElem (by simpa using U)];have C:(i*z+j)%I.cells.size=j:=by rw[ac,p];exact W
   simp only[Option.map_some,Array.getElem_range,C]
   rw[getElem!_pos I.cells j O])
 refine⟨_,_,?_,iT hn ag D hd (owned hi (gx _ _ _) ⟨_,_,_,rfl⟩) hK⟩;rw[length_replicate];have s:(newRow e cells).run P w=.ok ⟨w.heap.size,0,none⟩ (w.alloc (.cells cells e)):=by simp[newRow,newObj,Sem.run,Sem.bind,pure,bind]
 have al:IntKind.i64.wrap (len:Int)=len:=Ei (by omega) (by omega);have am:IntKind.i64.wrap (k:Int)=k:=Ei (by omega) (by omega);have J:∀m,(askRoom m).run P w=.ok () w:=by
  intro m;unfold askRoom;split<;>simp[mark,Sem.run,pure]
 have L:(aq.bytes:Int)*(k:Int)<=281474976710656:=by
  rw[hb];have:(ad:Int)*(k:Int)<=2^47:=ae;omega
 have X:¬((k:Int)<0):=by omega
 have A:¬((len:Int)<0):=by omega
 have R:¬((len:Int)>(k:Int)):=by omega
 rw[V,N];simp only[Instr.makeSlice,Sem.run_bind,bO hu,asInt,asIntOf,pure,Sem.run,Result.andThen_ok,pF ai,al,am];rw[au (by simp[X,L,A,R])];simp only[Sem.run_bind,J,Result.andThen_ok,cY hl,Int.toNat_natCast];by_cases F:k*z=0
 ·have:cells = #[]:=Array.eq_empty_of_size_eq_zero (by rw[M,F]);simp only[F,if_true,Sem.run,Result.andThen_ok,Sem.run_bind];have E:(newRow e #[]).run P w=.ok ⟨w.heap.size,0,none⟩ (w.alloc (.cells cells e)):=by rw[<-this];exact s
  rw[show(Array.range 0:Array Nat) = #[]from rfl];simp[E]
 ·simp only[au F,Sem.run_bind,ap,Result.andThen_ok,Sem.run];rw[s];simp[Sem.run]

theorem Sj(h:Inv w0 l0 G S0 w lev own S env (ni a.tmps))(E:a.tmps.size=n)(r:a.defers=[])
  (m:Cont n w0 l0 G S0 K next) (k:jD P n dr o env true K):o.wp P a w next Q:=by
 have s:∀d,o.dst=some d->d<n->iz true (dO P env o.op) (gB P env o.op) (λu=>K (ck env d u))->o.wp P a w next Q:=by
  intro d C p ⟨hok,L⟩;obtain⟨u,F,M⟩:=pure_run h o (hok rfl);exact upon_value C F (iT E r m p (h.put M) L)
 cases C:o.dst with
 |none =>
  cases q:o.op<;>simp only[jD,q,C]at k<;>try exact k.elim
  obtain⟨_,k⟩:=k;obtain⟨w',F,A⟩:=Zg h E r m k;unfold Oper.wp;have:(execOp a.eval o).run P w=.ok .skip w':=by
   simp only[execOp,q,Sem.run_bind,F];rfl
  rw[this];simp only[Oper.upon,C,Act.put];exact A
 |some d =>
  cases q:o.op<;>simp only[jD,q,C]at k
  case box T x =>
   obtain⟨_,p,k⟩:=k;have:=UF (T:=T) h E r p m k;refine upon_value C (u:=.pointer (some ⟨w.heap.size,0,none⟩)) ?_ this;simp only[execOp,q];exact kK (by simp[Instr.box,newVar,newRow,newObj,Sem.run,Sem.bind,pure,bind])
  case alloc T =>
   obtain⟨_,p,k⟩:=k;cases N:nw P T with
   |none=>rw[N]at k;exact k.elim
   |some zc =>
    rw[N]at k;obtain⟨Y,L⟩:=k;obtain⟨zv,O,R,I⟩:=uv N w;obtain⟨_,_,_,Z⟩:=boxed (d:=d) h T R (λj u e M X=>I _ j u e M X) Y;refine upon_value C (u:=.pointer (some ⟨w.heap.size,0,none⟩)) ?_ (iT E r m p Z L);simp only[execOp,q];refine kK ?_;simp only[Instr.alloc,Sem.run_bind,O,Result.andThen_ok];simp[newVar,newRow,newObj,Sem.run,Sem.bind,pure,bind]
  case buildSlice t len parts =>
   obtain⟨p,k⟩:=k;obtain⟨lev1,S1,W⟩:=Inv.XP (sH env parts.toList) h (λ_ _=>trivial);obtain⟨u,w',F,A⟩:=Xq W E r p m (k.1 rfl).2;exact upon_value C (by simp only[execOp,q];exact kK F) A
  case makeSlice t l c =>
   obtain⟨p,k⟩:=k;obtain⟨u,w',F,A⟩:=Yn h E r p m (k.1 rfl);exact upon_value C (by simp only[execOp,q];exact kK F) A
  case call c =>
   obtain⟨p,k⟩:=k;split at k
   ·-- append
    rename_i D;obtain⟨_,_,k⟩:=k;split at k
    ·rename_i x y T U H J;have V:c.args = #[x,y]:=Array.ext' (by simpa using H);have e2:c.argTypes = #[T,U]:=Array.ext' (by simpa using J);have k:gM P n o env K\/tc env d K (rd env x) (rd env y) (eH P T) (eH P U):=by
      unfold Dj at k;split at k
      ·exact .inl k
      ·exact .inl k
      ·exact .inr k
     rcases k with k|k
     ·exact k _ _ _ _ _ _ _ _ _ _ _ h E r m
     obtain⟨u,w',F,A⟩:=Uy (T3:=o.type) h E r p m k;refine upon_value C ?_ A;have hm:c.args.map a.eval = #[a.eval x,a.eval y]:=by rw[V];simp
     simp only[execOp,q,resolve,D,Sem.run_bind,pure,Sem.run,Result.andThen_ok,invoke,builtin,hm,e2,F]
    ·exact k.elim
   ·exact s d C p (by rw[q];exact k)
   ·rename_i f D;rcases k.1 rfl with k| ⟨_,k⟩
    ·exact Ry h E r D p q C m k
    ·exact k _ _ _ _ _ _ _ _ _ _ _ h E r m
   ·exact k.elim
  all_goals exact s d C k.1 (by rw[q];exact k.2)

theorem VE(h:Inv w0 l0 G S0 w lev own S env (ni a.tmps))(A:a.tmps.size=n)(s:a.defers=[])
  (p:Cont n w0 l0 G S0 K next) (j:jD P n dr o env false K):next (a.put o.dst Go.undef) w:=by
 have r:∀d,o.dst=some d->d<n->K (ck env d (.bI []))->next (a.put o.dst Go.undef) w:=by
  intro d k m y;rw[k];exact iT A s p m (h.put (v:=Go.undef) (d:=.bI []) (.bI #[] [] rfl (by intro i v d C;simp at C))) y
 cases k:o.dst with
 |none =>
  cases q:o.op<;>simp only[jD,q,k]at j<;>first|exact j.elim|exact(wG j.1).elim
 |some d =>
  rw[<-k];cases q:o.op<;>simp only[jD,q,k]at j<;>try(first|exact(wG j.1).elim|exact r d k j.1 j.2.2|exact r d k j.1 (j.2.2 rfl))
  case call c =>
   obtain⟨m,j⟩:=j;split at j
   ·exact(wG j.1).elim
   ·exact r d k m j.2
   ·exact r d k m (j.2 rfl)
   ·exact j.elim
def VF(h:Inv w0 l0 G S0 w lev own S env (ni a.tmps))(p:a.tmps.size=n)(k:a.defers=[])
  (j:Cont n w0 l0 G S0 K next) (m:l9 P n dr o env true K):o.wp P a w next Q:=by
 unfold l9 at m;split at m
 ·exact m.2.2 _ _ _ _ _ _ _ _ _ _ _ h p k j
 ·exact Sj h p k j m
def Yz(h:Inv w0 l0 G S0 w lev own S env (ni a.tmps))(p:a.tmps.size=n)(m:a.defers=[])
  (j:Cont n w0 l0 G S0 K next) (k:l9 P n dr o env false K):next (a.put o.dst Go.undef) w:=by
 unfold l9 at k;split at k
 ·exact(wG k.1).elim
 ·exact VE h p m j k
end
end Go.Abs
