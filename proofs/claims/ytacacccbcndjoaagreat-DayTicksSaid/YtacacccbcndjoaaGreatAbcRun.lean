/- Each operation of the model does what AbsSem says of the data. No theorem of a claim. -/
import Derived.Test.YtacacccbcndjoaaGreatAbcSem
set_option linter.unusedSimpArgs false
set_option linter.unusedVariables false
namespace Go.Abs
section
variable {P:Program} {w:World} {V:Cx}
theorem bG {t:TypeId} {d:TypeDesc} (h:P.underlying t=some d) (w:World):(underlying t).run P w=.ok d w:=run_underlying h w
theorem mo {t:TypeId} {i:TypeInfo} (h:P.info? t=some i) (w:World):(typeInfo t).run P w=.ok i w:=by
 simp [typeInfo,program,h,Sem.run_bind,Sem.run]
theorem PO {t:TypeId} {i:TypeInfo} (h:P.info? t=some i) (w:World):(sizeOf t).run P w=.ok i.size w:=by
 simp [sizeOf,mo h,Sem.run_bind,Sem.run]
theorem NA {t:TypeId} {l:qA} (h:bT P t=some l):∃ d i,P.underlying t=some d/\P.info? t=some i/\l=⟨Hq d,i.size⟩:=by
 unfold bT at h;split at h
 ·rename_i d i hd hi;exact ⟨d,i,hd,hi,by simpa using h.symm⟩
 ·cases h
theorem cm {t:TypeId} {l:qA} (h:bT P t=some l) (w:World):(sizeOf t).run P w=.ok l.sz w:=by
 obtain ⟨d,i,_,hi,rfl⟩:=NA h;exact PO hi w
theorem yh {t:TypeId} {l:qA} (h:bT P t=some l) (w:World):(isAgg t).run P w=.ok l.agg w:=by
 obtain ⟨d,i,hd,_,rfl⟩:=NA h;simp only [isAgg,Sem.run_bind,bG hd];cases d<;>simp [Hq,Sem.run,pure]
theorem aE.dA {v:Value} {k:IntKind} {n:Int} (h:aE V v (.int k n)):v=.int k n:=by cases h;rfl
theorem aE.iI {v:Value} {b:Bool} (h:aE V v (.bool b)):v=.bool b:=by cases h;rfl
theorem aE.l8 {v:Value} {s:ByteArray} (h:aE V v (.str s)):v=.string s:=by cases h;rfl
theorem aE.lU {v:Value} {ds:List D} (h:aE V v (.agg ds)):∃ vs,v=.agg vs/\vs.size=ds.length/\∀ (i:Nat) v d,vs[i]?=some v->ds[i]?=some d->aE V v d:=by
 cases h with
 | agg vs ds hl hi=>exact ⟨vs,rfl,hl,hi⟩
theorem aE.xh {v:Value} {ds:List D} (h:aE V v (.bD ds)):∃ vs,v=.tuple vs/\vs.size=ds.length/\∀ (i:Nat) v d,vs[i]?=some v->ds[i]?=some d->aE V v d:=by
 cases h with
 | bD vs ds hl hi=>exact ⟨vs,rfl,hl,hi⟩
theorem aE.Df {v:Value} {f:FuncId} {ds:List D} (h:aE V v (.fn f ds)):∃ vs,v=.func (.func f) #[] vs/\vs.size=ds.length/\∀ (i:Nat) v d,vs[i]?=some v->ds[i]?=some d->aE V v d:=by
 cases h with
 | fn f vs ds hl hi=>exact ⟨vs,rfl,hl,hi⟩
theorem aE.vu {v:Value} {z:Nat} {rows:List (List D)} (h:aE V v (.sl z rows)) :
  ∃ a cap,v=.slice a rows.length cap/\rows.length<=cap/\(∀ r∈rows,r.length=z)/\(∀ r∈rows,∀ d∈r,dw d) /\
   (a=none->rows=[]/\cap=0)/\∀ ad,a=some ad->∀ (i j:Nat) r d,rows[i]?=some r->r[j]?=some d->∃ u,V.V (ad.add (i*z+j))=some u/\aE V u d:=by
 cases h with
 | slnil z=>exact ⟨none,0,rfl,by simp,by simp,by simp,fun _=>⟨rfl,rfl⟩,(fun ad h=>by cases h)⟩
 | sl z a cap rows f hl hz hk hV hR =>
  refine ⟨some a,cap,rfl,hl,hz,hk,(fun h=>by cases h),?_⟩
  rintro ad ⟨⟩ i j r d hi hj
  exact ⟨_,hV i j r d hi hj,hR i j r d hi hj⟩
theorem aE.lF {v:Value} {cs:List D} (h:aE V v (.bI cs)) :
  ∃ a,v=.pointer (some a)/\(∀ d∈cs,d.names=[])/\∀ (j:Nat) d,cs[j]?=some d->∃ u,V.V (a.add j)=some u/\aE V u d:=by
 cases h with
 | bI a cs f hn hV hR=>exact ⟨a,rfl,hn,fun j d hj=>⟨_,hV j d hj,hR j d hj⟩⟩
theorem aE.mY {v:Value} {r:Nat} (h:aE V v (.ref r)):V.S r=some v/\∃ a len cap,v=.slice a len cap:=by
 cases h with
 | ref r a len cap h=>exact ⟨h,a,len,cap,rfl⟩
theorem aE.ia {v:Value} {r off:Nat} (h:aE V v (.addr r off)):∃ a,V.S r=some (.pointer (some a))/\v=.pointer (some (a.add off)):=by
 cases h with
 | addr r off a h=>exact ⟨a,h,rfl⟩
theorem aE.jd {v:Value} {r z i k:Nat} (h:aE V v (.bQ r z i k)):∃ a len cap,V.S r=some (.slice (some a) len cap)/\v=.pointer (some (a.add (i*z+k))):=by
 cases h with
 | bQ r z i k a len cap h=>exact ⟨a,len,cap,h,rfl⟩
theorem aE.mw {v:Value} {r z lo len:Nat} (h:aE V v (.fj r z lo len)):∃ a a' L cap cap',V.S r=some (.slice a L cap)/\v=.slice a' len cap'/\(len≠0->∃ b,a=some b/\a'=some (b.add (lo*z)))/\len<=cap'/\(a'=none->cap'=0):=by
 cases h with
 | fj r z lo len a a' L cap cap' h h1 h2 h3=>exact ⟨a,a',L,cap,cap',h,rfl,h1,h2,h3⟩
theorem aE.ju {v:Value} {r off z len cap:Nat} (h:aE V v (.eI r off z len cap)):∃ a a' cap',V.S r=some (.pointer (some a))/\v=.slice a' len cap'/\(len≠0->a'=some (a.add off))/\len<=cap'/\(a'=none->cap'=0)/\cap'=cap/\(cap≠0->a'=some (a.add off)):=by
 cases h with
 | eI r off z len cap a a' h h1 h2 =>
  refine ⟨a,a',cap,h,rfl,fun hn=>h1 (by omega),h2,?_,rfl,h1⟩;intro hn
  by_cases e:cap=0
  ·exact e
  ·have:=h1 e;rw [hn] at this;cases this
theorem iA {z:Nat} {rows:List (List D)} {a:Addr} {cap:Nat} (hl:rows.length<=cap) (hz:∀ r∈rows,r.length=z) (hk:∀ r∈rows,∀ d∈r,dw d)
  (h:∀ (i j:Nat) r d,rows[i]?=some r->r[j]?=some d->∃ u,V.V (a.add (i*z+j))=some u/\aE V u d):aE V (.slice (some a) rows.length cap) (.sl z rows):=
 .sl z a cap rows (fun i j=>(V.V (a.add (i*z+j))).getD Go.undef) hl hz hk
  (fun i j r d hi hj=>by obtain ⟨u,hu,_⟩:=h i j r d hi hj;simp [hu])
  (fun i j r d hi hj=>by obtain ⟨u,hu,hr⟩:=h i j r d hi hj;simpa [hu] using hr)
theorem jI {cs:List D} {a:Addr} (hn:∀ d∈cs,d.names=[]) (h:∀ (j:Nat) d,cs[j]?=some d->∃ u,V.V (a.add j)=some u/\aE V u d):aE V (.pointer (some a)) (.bI cs):=
 .bI a cs (fun j=>(V.V (a.add j)).getD Go.undef) hn
  (fun j d hj=>by obtain ⟨u,hu,_⟩:=h j d hj;simp [hu])
  (fun j d hj=>by obtain ⟨u,hu,hr⟩:=h j d hj;simpa [hu] using hr)
theorem oJ (v:Value):aE V v (B4 v):=by
 unfold B4;split<;>first | exact .bool _ | exact .int _ _ | exact .str _ | exact .nil | exact .iP | exact .eM | exact .j4 | exact .undef _
theorem JU (v:Value):aE V v (qW v):=by
 unfold qW;split
 ·rename_i cs;refine .agg _ _ (by simp) ?_;intro i v d hv hd;simp only [List.getElem?_map] at hd;have:cs.toList[i]?=some v:=by simpa using hv
  rw [this] at hd;simp at hd;subst hd;exact oJ v
 ·rename_i vs;split
  ·rename_i h0;have:vs = #[]:=by simpa using h0
   subst this;exact .bD _ _ rfl (by intro i v d hv;simp at hv)
  ·exact .undef _
 ·exact oJ _
theorem TQ {op:BinOp} {t:TypeId} {k k':IntKind} {n m:Int} (h:kU op k k' m) (w:World) :
  ∃ u,(binOp op t (.int k n) (.int k' m)).run P w=.ok u w/\aE V u (Ie op k n m):=by
 cases op
 case shl=>exact ⟨_,by have h':¬ m < 0:=Int.not_lt.2 h;simp [binOp,Op.shift,h',Sem.run,pure],.int _ _⟩
 case shr=>exact ⟨_,by have h':¬ m < 0:=Int.not_lt.2 h;simp [binOp,Op.shift,h',Sem.run,pure],.int _ _⟩
 case quo =>
  have hk:=h.1;have hm:=h.2;subst hk;exact ⟨_,by simp [binOp,Op.intDiv,hm,Sem.run,pure],.int _ _⟩
 case rem =>
  have hk:=h.1;have hm:=h.2;subst hk;exact ⟨_,by simp [binOp,Op.intDiv,hm,Sem.run,pure],.int _ _⟩
 all_goals
  have hk:k=k':=h;subst hk
  first
   | exact ⟨_,by simp [binOp,Op.intArith,Op.intBits,Op.intCmp,Sem.run,pure],.int _ _⟩
   | exact ⟨_,by simp [binOp,Op.intArith,Op.intBits,Op.intCmp,Sem.run,pure],.bool _⟩
theorem run_equalIn_bool {t:TypeId} (hu:P.underlying t=some .bool) (d:Nat) (p q:Bool) (w:World):(Op.equalIn (d+1) t (.bool p) (.bool q)).run P w=.ok (p==q) w:=by
 unfold Op.equalIn;simp only [Sem.run_bind,bG hu];rfl
theorem NR {op:BinOp} {t:TypeId} {x y:Value} {a b:D} (hx:aE V x a) (hy:aE V y b) (h:CT op (bO P t) a b) (w:World) :
  ∃ u,(binOp op t x y).run P w=.ok u w/\aE V u (yQ op a b):=by
 cases a<;>try exact h.elim
 case int k n =>
  cases b<;>try exact h.elim
  case int k' m =>
   rw [hx.dA,hy.dA];exact TQ h w
 case str s =>
  cases b<;>try exact h.elim
  case str s' =>
   rw [hx.l8,hy.l8];simp only [CT] at h;cases op<;>simp only [Ff] at h<;>try exact h.elim
   case add =>
    refine ⟨.string (s++s'),?_,.str _⟩
    have:¬ (((s.size+s'.size:Nat):Int) > IntKind.i64.max):=by
     simp [IntKind.max,IntKind.bits,IntKind.signed];omega
    simp only [binOp,Op.stringOp,if_neg this];rfl
   all_goals exact ⟨_,by simp only [binOp,Op.stringOp];rfl,by simp only [yQ,sop];constructor⟩
 case bool p =>
  cases b<;>try exact h.elim
  case bool q =>
   rw [hx.iI,hy.iI];obtain ⟨ho,ht⟩:=h
   have hu:P.underlying t=some .bool:=by
    unfold bO at ht;split at ht<;>first | assumption | (exfalso;revert ht;(repeat' split)<;>simp) | cases ht
   have he:(Op.equal t (.bool p) (.bool q)).run P w=.ok (p==q) w:=by
    exact run_equalIn_bool hu 9999 p q w
   rcases ho with rfl | rfl
   ·exact ⟨.bool (p==q),by simp [binOp,Sem.run_bind,he,Sem.run,pure],by simp only [yQ,Jh];constructor⟩
   ·exact ⟨.bool (!(p==q)),by simp [binOp,Sem.run_bind,he,Sem.run,pure],by simp only [yQ,Jh];constructor⟩
theorem OO {op:UnOp} {x:Value} {a:D} (hx:aE V x a) (h:oX op a) (w:World) :
  ∃ u,(Op.unary op x).run P w=.ok u w/\aE V u (yR op a):=by
 cases a<;>try exact h.elim
 case int k n =>
  rw [hx.dA];rcases h with rfl | rfl
  ·exact ⟨.int k (k.wrap (0-n)),by simp only [Op.unary,Op.intArith];rfl,.int _ _⟩
  ·exact ⟨_,by simp [Op.unary,Op.intBits,Sem.run,pure];rfl,by simp only [yR];constructor⟩
 case bool b =>
  rw [hx.iI];simp only [oX] at h;subst h;exact ⟨.bool (!b),rfl,by simp only [yR];constructor⟩
theorem MA {t:TypeId} {k:IntKind} (h:bO P t=.int k):P.underlying t=some (.int k):=by
 unfold bO at h;split at h<;>first | (cases h;assumption) | cases h | (exfalso;revert h;(repeat' split)<;>simp)
theorem vY {t:TypeId} (h:bO P t=.str):P.underlying t=some .string:=by
 unfold bO at h;split at h<;>first | (cases h;assumption) | cases h | (exfalso;revert h;(repeat' split)<;>simp)
theorem eK {t:TypeId} {z n:Nat} {a:Bool} (h:bO P t=.slice z n a) :
  ∃ e i,P.underlying t=some (.slice e)/\bT P e=some ⟨a,z⟩/\P.info? e=some i/\i.bytes=n/\z≠0/\∃ zv,i.zero=some zv/\zv.cells.size=z:=by
 unfold bO at h;split at h<;>try (cases h;done)
 ·rename_i e hu;split at h<;>try (cases h;done)
  rename_i l i hl hi;split at h
  ·cases h
  ·split at h
   ·rename_i hzv;cases h;cases hz:i.zero with
    | none=>rw [hz] at hzv;cases hzv
    | some zv =>
     rw [hz] at hzv;exact ⟨e,i,hu,hl,hi,rfl,by assumption,zv,hz,by simpa using hzv⟩
   ·cases h
 ·split at h<;>try (cases h;done)
  split at h<;>cases h
 ·split at h<;>cases h
theorem wG {t:TypeId} {n z:Nat} {a:Bool} (h:bO P t=.arr n z a):∃ e,P.underlying t=some (.array n e)/\bT P e=some ⟨a,z⟩/\z≠0:=by
 unfold bO at h;split at h<;>try (cases h;done)
 ·split at h<;>try (cases h;done)
  split at h<;>try (cases h;done)
  split at h<;>cases h
 ·rename_i n' e hu;split at h<;>try (cases h;done)
  rename_i l hl;split at h
  ·cases h
  ·cases h;exact ⟨e,hu,hl,by assumption⟩
 ·split at h<;>cases h
theorem vF {t:TypeId} {l:List FT} (h:bO P t=.struct l):∃ fs,P.underlying t=some (.struct fs)/\l9 P fs.toList=some l:=by
 unfold bO at h;split at h<;>try (cases h;done)
 ·split at h<;>try (cases h;done)
  split at h<;>try (cases h;done)
  split at h<;>cases h
 ·split at h<;>try (cases h;done)
  split at h<;>cases h
 ·rename_i fs hu;split at h<;>try (cases h;done)
  cases h;exact ⟨fs,hu,by assumption⟩
theorem vl:∀ {fs:List Field} {l:List FT},l9 P fs=some l->l.length=fs.length/\∀ (i:Nat) f,fs[i]?=some f->∃ ly,bT P f.type=some ly/\ly.sz≠0/\l[i]?=some ⟨f.offset,ly.sz,ly.agg⟩
 | [],l,h=>by simp only [l9,Option.some.injEq] at h;subst h;exact ⟨rfl,by intro i f h;simp at h⟩
 | f :: r,l,h=>by
  unfold l9 at h;split at h<;>try (cases h;done)
  rename_i ly fs' hl hr;split at h
  ·cases h
  ·rename_i hz;cases h;obtain ⟨h1,h2⟩:=vl hr;refine ⟨by simp [h1],?_⟩;intro i g hg;cases i with
   | zero=>simp at hg;subst hg;exact ⟨ly,hl,hz,rfl⟩
   | succ i=>simp at hg |-;exact h2 i g hg
theorem KN {s d:TypeId} {x:Value} {a:D} (hx:aE V x a) (h:Cj (bO P s) (bO P d) a) (w:World) :
  ∃ u,(convert s d x).run P w=.ok u w/\aE V u (Gg (bO P s) (bO P d) a):=by
 cases a<;>try exact h.elim
 case int k n =>
  rw [hx.dA];obtain ⟨⟨k',ht⟩,⟨k'',hs⟩⟩:=h;refine ⟨.int k' (k'.wrap n),?_,by simp only [Gg,ht];constructor⟩;simp [convert,Sem.run_bind,bG (MA ht),bG (MA hs),Conv.intToInt,Sem.run,pure]
 case str b =>
  rw [hx.l8];obtain ⟨ht,hs⟩:=h;refine ⟨.string b,?_,by simp only [Gg,ht];constructor⟩;simp [convert,Sem.run_bind,bG (vY ht),bG (vY hs),Sem.run,pure]
end
end Go.Abs
