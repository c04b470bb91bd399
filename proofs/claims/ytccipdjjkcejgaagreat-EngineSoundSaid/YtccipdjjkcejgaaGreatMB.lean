/- For CoverShorts: differences, and what follows. No theorem of a claim. -/
import Derived.Test.YtccipdjjkcejgaaGreatMA
import Derived.Test.YtccipdjjkcejgaaGreatAC
import Derived.Test.YtccipdjjkcejgaaGreatAB
set_option linter.unusedSimpArgs false
set_option linter.unusedVariables false
set_option maxHeartbeats 4000000
set_option maxRecDepth 16000
namespace Go.Proofs.YtccipdjjkcejgaaGreat
open Go.Abs Tryz
open List hiding lt max
theorem bI {x:Int}:bQ x=true ↔ -4611686018427387904<=x/\x<=4611686018427387904:=by simp [bQ]
def AB (a b:Int):Int:=if bQ a&&(bQ b&&bQ (a-b)) then a-b else 0
def DK (a b:Int):Int:=if bQ a&&bQ b then (if bQ (a-b) then 0 else 1) else 3
theorem Qj (a b:Int):Sq 159 [] [.I a,.I b] [] (.bT [.I (AB a b),.I (DK a b)]):=by
 have g:Sq 129 [] [.sl 1 [[.I a],[.I b]]] [] (.bool (right [a,b])):=bY [a,b] (by simp);have k:right [a,b]=(bQ a&&bQ b):=by simp [right]
 rw [k] at g;refine bf 20 2 [.tmp 4,.tmp 5] mixed func159 ?_;refine sl aJ g ?_;cases c:bQ a&&bQ b
 ·have e2:AB a b=0:=by
   simp only [AB];rw [<- Bool.and_assoc,c];simp
  have d:DK a b=3:=by simp [DK,c]
  exact fL (a2 e2 d)
 have hr:(-4611686018427387904<=a/\a<=4611686018427387904)/\(-4611686018427387904<=b/\b<=4611686018427387904):=by
  simp only [cU,bI] at c;exact c
 have j:bQ (IntKind.wrap .i64 (a-b))=bQ (a-b)/\(bQ (a-b)=true->IntKind.wrap .i64 (a-b)=a-b):=by
  by_cases hx:a-b < 9223372036854775808
  ·rw [gA ah ah];exact ⟨rfl,fun _=>rfl⟩
  ·have f:a-b=9223372036854775808:=ah
   rw [f];exact ⟨by decide,fun h=>by revert h;decide⟩
 have i:Sq 129 [] [.sl 1 [[.I (IntKind.wrap .i64 (a-b))]]] [] (.bool (right [IntKind.wrap .i64 (a-b)])):=bY [IntKind.wrap .i64 (a-b)] (by simp);rw [o8,j.1] at i;refine sl aJ i ?_;cases e:bQ (a-b)
 ·have e2:AB a b=0:=by simp [AB,e]
  have d:DK a b=1:=by simp [DK,c,e]
  exact fL (a2 e2 d)
 ·have e2:AB a b=a-b:=by
   simp only [AB];rw [<- Bool.and_assoc,c,e];simp
  have d:DK a b=0:=by simp [DK,c,e]
  simp only [go_sem,seval,e2,d,j.2 e]
def wd (S:Int):List D:=[.I (S / 18446744073709551616),.int .u64 (S%18446744073709551616)]
theorem aj8 (n:Int) (h:-9223372036854775808<=n/\n<=9223372036854775807):Af .i64 n 63=n / 18446744073709551616:=by
 have:Af .i64 n 63=n.fdiv (2 ^ 63):=rfl;rw [this,Int.fdiv_eq_ediv_of_nonneg _ ah];omega
theorem Hy (n:Int) (h:-9223372036854775808<=n/\n<=9223372036854775807):Sq 230 [] [.I n] [] (.agg (wd n)):=by
 have a:=aj8 n h;have b:IntKind.wrap .u64 n=n%18446744073709551616:=IntKind.wrap_u64 n;refine bf 8 1 [.cell 2 190] mixed func230 ?_;simp only [go_sem,seval,a,b,wd]
theorem lP (S:Int):Sq 117 [] [.agg (wd S)] [] (.bT [.I (if bQ S then S else 0),.I (if bQ S then 0 else 1)]):=by
 obtain ⟨n,h⟩:=aQ (IntKind.wrap .i64 (S%18446744073709551616));have a:n=if S%18446744073709551616 < 9223372036854775808 then S%18446744073709551616 else S%18446744073709551616-18446744073709551616:=by
  rw [h,IntKind.wrap_i64];split<;>omega
 have d:-9223372036854775808<=n/\n<=9223372036854775807:=by rw [a];split<;>omega
 have f:=Hy n d;have hr:Sq 129 [] [.sl 1 [[.I n]]] [] (.bool (right [n])):=bY [n] (by simp);rw [o8] at hr;have g:(S%18446744073709551616==n%18446744073709551616)=true:=by rw [eH,a];split<;>omega
 simp only [wd] at f |-;refine bf 19 1 [.tmp 2,.tmp 3] mixed func117 ?_;simp only [go_sem,seval,<- h];refine ⟨eZ.mk (by kernel_rfl),vO.mk (by kernel_rfl),aD.bp f ?_⟩;by_cases hS:-9223372036854775808<=S/\S < 9223372036854775808
 ·have b:n=S:=by rw [a];split<;>omega
  have e:(S / 18446744073709551616==n / 18446744073709551616)=true:=by rw [b];exact beq_self_eq_true _
  refine sm (a2 g e) ?_;refine ⟨vO.mk (by kernel_rfl),?_⟩;refine sl aJ hr ?_;rw [b];cases c:bQ S
  ·simp only [go_sem,seval,c,nJ,if_false]
  ·simp only [go_sem,seval,c,if_true]
 ·have e:(S / 18446744073709551616==n / 18446744073709551616)=false:=by
   rw [beq_eq_false_iff_ne,a];split<;>omega
  have c:bQ S=false:=by simp only [bQ,Bool.and_eq_false_iff,gM];omega
  simp only [go_sem,seval,g,e,c,nJ,if_false]
def Pa (l:List Int):List (List D):=l.map wd
@[go_sem] theorem asu (l:List Int):(Pa l).length=l.length:=by simp [Pa]
theorem akp (l:List Int) {i:Nat} (h:i < l.length):(Pa l).getD i []=[.I (l[i] / 18446744073709551616),.int .u64 (l[i]%18446744073709551616)]:=by simp [Pa,h,wd]
def Oa (S:Int):Bool:=decide (-170141183460469231731687303715884105728<=S)&&decide (S < 170141183460469231731687303715884105728)
theorem aeY (S n:Int):((S / 18446744073709551616)%18446744073709551616+(n / 18446744073709551616)%18446744073709551616+(S%18446744073709551616+n%18446744073709551616+0) / 18446744073709551616)%18446744073709551616=((S+n) / 18446744073709551616)%18446744073709551616:=by
 have a:(S+n) / 18446744073709551616=S / 18446744073709551616+n / 18446744073709551616+(S%18446744073709551616+n%18446744073709551616+0) / 18446744073709551616:=ah
 rw [a];omega
theorem afU (A B c s:Int) (hc:0<=c/\c<=1) (hB:-9223372036854775808<=B/\B<=9223372036854775807) (b:s=if 0<=B then 0 else 18446744073709551615) :
  ((A / 18446744073709551616)%18446744073709551616+s+(A%18446744073709551616+B%18446744073709551616+c) / 18446744073709551616)%18446744073709551616=((A+B+c) / 18446744073709551616)%18446744073709551616:=by
 have a:(A+B+c) / 18446744073709551616=A / 18446744073709551616+B / 18446744073709551616+(A%18446744073709551616+B%18446744073709551616+c) / 18446744073709551616:=ah
 rw [a,b];split<;>omega
theorem div_add (S n:Int):S / 18446744073709551616+n / 18446744073709551616+(S%18446744073709551616+n%18446744073709551616+0) / 18446744073709551616=(S+n) / 18446744073709551616:=ah
theorem OY:∀ {l:List Int},(∀ n∈l,Oa n=true) -> -170141183460469231731687303715884105728*(l.length:Int)<=aG l/\aG l<=170141183460469231731687303715884105728*(l.length:Int)
 | [],_=>by simp [aG]
 | x :: r,h=>by
  have h2:=OY (l:=r) fun n b=>h n (by simp [b]);have a:=h x (by simp);simp only [Oa,cU,bL] at a;simp only [aG,length_cons];push_cast;omega
theorem vM (l:List Int) (hl:l.length < 2 ^ 60) (hr:∀ n∈l,Oa n=true):Sq 229 [] [.sl 2 (Pa l)] [] (.bT [.agg (wd (if Oa (aG l) then aG l else 0)),.I (if Oa (aG l) then 0 else 1)]):=by
 refine bf 54 1 [.cell 2 190,.tmp 3] mixed func229 ?_;refine s0 ?_;refine aM.count l.length [2,10,11] [48,192] (fun i=>[(12,.I i),(4,.int .u64 (aG (l.take i)%18446744073709551616)),(5,.int .u64 ((aG (l.take i) / 18446744073709551616)%18446744073709551616)),(6,.int .u64 ((aG (l.take i) / 18446744073709551616 / 18446744073709551616)%18446744073709551616))]) (fun i=>[]) (fun i=>True) trivial ?_ ?_
 ·simp only [go_sem,seval]<;>simp [aG]
 ·intro i b _;refine s0 ?_;refine bF.fM (fun h=>?_) (fun h=>?_)
  ·have a:i < l.length:=ah
   have F:IntKind.wrap .i64 ((i:Int)+1)=((i+1:Nat):Int):=gN;have D:=hr l[i] (ck a);obtain ⟨S,C⟩:=aQ (aG (l.take i));obtain ⟨n,s⟩:=aQ (l[i]);have e:aG (l.take (i+1))=S+n:=by rw [l7 a,uO,C,s]
   rw [<- s] at D;simp only [Oa,cU,bL] at D;obtain ⟨B,z⟩:=aQ (n / 18446744073709551616);have f:-9223372036854775808<=B/\B<=9223372036854775807:=ah
   have E:IntKind.wrap .u64 B=B%18446744073709551616:=IntKind.wrap_u64 B;have u:=Xg B f;have w:=afU (S / 18446744073709551616) B ((S%18446744073709551616+n%18446744073709551616+0) / 18446744073709551616) _ ah f rfl;have v:=aeY S n;have x:=div_add S n;rw [<- z] at v x;rw [x] at w;simp only [go_sem,seval,akp l a,<- s,<- C,<- z];refine ⟨by omega,?_⟩;refine aD.sem rfl ?_;with_reducible refine dH.Ns (k:=299) (fn:=Tryz.f299) (i:=S%18446744073709551616) (j:=n%18446744073709551616) (m:=0) ?_ func299 ?_ ?_ ue ud ?_ ?_ ?_ ?_ ?_ ?_ ?_ ?_ ?_
   iterate 11 (first | rfl | omega)
   refine sm E ?_;refine aD.sem rfl ?_;with_reducible refine dH.Ns (k:=299) (fn:=Tryz.f299) (i:=S / 18446744073709551616%18446744073709551616) (j:=B%18446744073709551616) (m:=(S%18446744073709551616+n%18446744073709551616+0) / 18446744073709551616) ?_ func299 ?_ ?_ ue ud ?_ ?_ ?_ ?_ ?_ ?_ ?_ ?_ ?_
   iterate 11 (first | rfl | omega)
   refine sm u ?_;refine aD.sem rfl ?_;with_reducible refine dH.Ns (k:=299) (fn:=Tryz.f299) (i:=S / 18446744073709551616 / 18446744073709551616%18446744073709551616) (j:=if 0<=B then 0 else 18446744073709551615) (m:=(S / 18446744073709551616%18446744073709551616+B%18446744073709551616+(S%18446744073709551616+n%18446744073709551616+0) / 18446744073709551616) / 18446744073709551616) ?_ func299 ?_ ?_ ue ud ?_ ?_ ?_ ?_ ?_ ?_ ?_ ?_ ?_
   iterate 7 (first | rfl | omega)
   ·split<;>omega
   iterate 3 (first | rfl | omega)
   rw [w,v,aaL];refine sm F ?_;refine av.eS a trivial ?_
   simp only [go_sem,seval,e]
  ·obtain rfl:i=l.length:=ah
   obtain ⟨T,o⟩:=aQ (aG l);have p:=OY hr;rw [<- o] at p |-;obtain ⟨A,y⟩:=aQ (T / 18446744073709551616);have hAr:-85070591730234615865843651857942052864<=A/\A<=85070591730234615865843651857942052864:=ah
   obtain ⟨m,q⟩:=aQ (IntKind.wrap .i64 (A%18446744073709551616));have c:m=if A%18446744073709551616 < 9223372036854775808 then A%18446744073709551616 else A%18446744073709551616-18446744073709551616:=by
    rw [q,IntKind.wrap_i64];split<;>omega
   have t:=Xg m (by rw [c];split<;>omega);by_cases b:Oa T=true
   ·have hi2:=b;simp only [Oa,cU,bL] at hi2;have d:m=A:=by rw [c];split<;>omega
    have g:(A / 18446744073709551616%18446744073709551616 != if 0<=m then 0 else 18446744073709551615)=false:=by
     rw [bne_eq_false_iff_eq,d];split<;>omega
    rw [aq b,aq b];rw [d] at t g;have r:IntKind.wrap .i64 (A%18446744073709551616)=A:=by rw [<- q,d]
    simp only [go_sem,seval,jr,<- o,<- y,r,t,g,wd]
   ·have hi2:¬ (-170141183460469231731687303715884105728<=T/\T < 170141183460469231731687303715884105728):=by
     simpa only [Oa,cU,bL] using b
    have g:(A / 18446744073709551616%18446744073709551616 != if 0<=m then 0 else 18446744073709551615)=true:=by
     rw [bne_iff_ne,c];split<;>split<;>omega
    rw [ak b,ak b];simp only [go_sem,seval,jr,<- o,<- y,<- q,t,g,wd];try exact ⟨by decide,by decide⟩
def gm (n:Int):Prop:=-9223372036854775808<=n/\n<=9223372036854775807
structure aF where
 who:Int
 inst:Int
 aZ:Int
 cost:Int
deriving DecidableEq
@[reducible] def aF.cells (x:aF):List D:=[.I x.who,.I x.inst,.I x.aZ,.I x.cost]
def aF.n7 (x:aF):Prop:=gm x.who/\gm x.inst/\gm x.aZ/\gm x.cost
structure aL where
 no:Int
 jK:Int
 gK:Int
 inst:Int
 aZ:Int
 aH:Int
 off:Bool
deriving DecidableEq
@[reducible] def aL.cells (x:aL):List D:=[.I x.no,.I x.jK,.I x.gK,.I x.inst,.I x.aZ,.I x.aH,.bool x.off]
def aL.n7 (x:aL):Prop:=gm x.no/\gm x.jK/\gm x.gK/\gm x.inst/\gm x.aZ/\gm x.aH
structure aE where
 who:Int
 cur:Int
 br:Int
deriving DecidableEq
@[reducible] def aE.cells (x:aE):List D:=[.I x.who,.I x.cur,.I x.br]
def aE.n7 (x:aE):Prop:=gm x.who/\gm x.cur/\gm x.br
structure aB where
 who:Int
 cur:Int
 br:Int
 till:Int
deriving DecidableEq
@[reducible] def aB.cells (x:aB):List D:=[.I x.who,.I x.cur,.I x.br,.I x.till]
def aB.n7 (x:aB):Prop:=gm x.who/\gm x.cur/\gm x.br/\gm x.till
structure bB where
 who:Int
 inst:Int
 src:Int
 aZ:Int
 aH:Int
deriving DecidableEq
@[reducible] def bB.cells (x:bB):List D:=[.I x.who,.I x.inst,.I x.src,.I x.aZ,.I x.aH]
def bB.n7 (x:bB):Prop:=gm x.who/\gm x.inst/\gm x.src/\gm x.aZ/\gm x.aH
structure dQ where
 cur:Int
 iU:Int
 c0:Int
 c1:Int
 c2:Int
 c3:Int
 c4:Int
 rest:Int
deriving DecidableEq
@[reducible] def dQ.cells (x:dQ):List D:=[.I x.cur,.I x.iU,.I x.c0,.I x.c1,.I x.c2,.I x.c3,.I x.c4,.I x.rest]
def dQ.n7 (x:dQ):Prop:=gm x.cur/\gm x.iU/\gm x.c0/\gm x.c1/\gm x.c2/\gm x.c3/\gm x.c4/\gm x.rest
def au.n7 (x:au):Prop:=gm x.no/\gm x.state/\gm x.need
def aC.n7 (x:aC):Prop:=gm x.no/\gm x.cur/\gm x.mult/\gm x.add/\gm x.set/\gm x.aH/\gm x.s0/\gm x.s1/\gm x.s2/\gm x.s3/\gm x.s4/\gm x.s5
def ay.n7 (x:ay):Prop:=gm x.a/\gm x.b/\gm x.c/\gm x.d
def cq.n7 (x:cq):Prop:=gm x.kind/\gm x.who/\gm x.cur/\gm x.sum
def fG.n7 (x:fG):Prop:=gm x.who/\gm x.fq/\gm x.units
structure aT where
 code:Int
 no:Int
 br:Int
 xy:List aE
 falls:List dQ
deriving DecidableEq
@[reducible] def aT.cells (x:aT):List D:=[.I x.code,.I x.no,.I x.br,.sl 3 (x.xy.map aE.cells),.sl 8 (x.falls.map dQ.cells)]
def aT.fits (x:aT):Prop:=24*x.xy.length<=140737488355328/\64*x.falls.length<=140737488355328
def aT.n7 (x:aT):Prop:=True/\True/\True/\True/\True/\x.fits
structure aO where
 client:Int
 seq:Int
 r:aT
deriving DecidableEq
@[reducible] def aO.cells (x:aO):List D:=[.I x.client,.I x.seq,.I x.r.code,.I x.r.no,.I x.r.br,.sl 3 (x.r.xy.map aE.cells),.sl 8 (x.r.falls.map dQ.cells)]
def aO.n7 (x:aO):Prop:=gm x.client/\gm x.seq/\x.r.n7
structure aI where
 next:Int
 ts:List aL
 qs:List aF
@[reducible] def aI.cells (b:aI):List D:=[.I b.next,.sl 7 (b.ts.map aL.cells),.sl 4 (b.qs.map aF.cells)]
structure af where
 now:Int
 day:Int
 phase:Int
 aj:az
 book:aI
 bu:bE
 ps:List fG
 calls:List aB
 bH:List bB
 aA:List aO
@[reducible] def af.cells (s:af):List D:=[.I s.now,.I s.day,.I s.phase,.sl 3 (s.aj.ms.map au.cells),.sl 12 (s.aj.ns.map aC.cells),.sl 4 (s.aj.xs.map ay.cells),.I s.book.next,.sl 7 (s.book.ts.map aL.cells),.sl 4 (s.book.qs.map aF.cells),
 .I s.bu.last,.sl 4 (s.bu.bs.map cq.cells),.sl 3 (pl s.ps),.sl 4 (s.calls.map aB.cells),.sl 5 (s.bH.map bB.cells),.sl 7 (s.aA.map aO.cells)]
structure af.n7 (s:af):Prop where
 now:gm s.now
 day:gm s.day
 phase:gm s.phase
 ms:∀ x∈s.aj.ms,x.n7
 ns:∀ x∈s.aj.ns,x.n7
 xs:∀ x∈s.aj.xs,x.n7
 next:gm s.book.next
 ts:∀ x∈s.book.ts,x.n7
 qs:∀ x∈s.book.qs,x.n7
 last:gm s.bu.last
 bs:∀ x∈s.bu.bs,x.n7
 ps:∀ x∈s.ps,x.n7
 calls:∀ x∈s.calls,x.n7
 bH:∀ x∈s.bH,x.n7
 aA:∀ x∈s.aA,x.n7
def sA {A:Type} (ok:A->Bool) (lt:A->A->Bool) (xs:List A) (i:Nat):Bool:=
 match xs[i]? with
 | none=>true
 | some b=>ok b&&(match i with
  | 0=>true
  | j+1=>match xs[j]? with
   | some q=>lt q b
   | none=>true)
def qt {A:Type} (ok:A->Bool) (lt:A->A->Bool) (xs:List A):Bool:=(range xs.length).all (sA ok lt xs)
section
variable {A:Type} {ok:A->Bool} {lt:A->A->Bool} {xs:List A}
theorem mU (h:0 < xs.length):sA ok lt xs 0=ok xs[0]:=by simp [sA,h]
theorem lC {j:Nat} (h:j+1 < xs.length):sA ok lt xs (j+1)=(ok xs[j+1]&&lt (xs[j]'ah) xs[j+1]):=by
 have a:j < xs.length:=ah
 simp [sA,h,a]
theorem JH {i:Nat} (h:i < xs.length) (a:sA ok lt xs i=false):qt ok lt xs=false:=by
 cases b:qt ok lt xs
 ·rfl
 ·rw [dn.1 b i (mem_range.2 h)] at a;cases a
theorem yE (h:∀ i < xs.length,sA ok lt xs i=true):qt ok lt xs=true:=dn.2 fun i a=>h i (mem_range.1 a)
theorem aa2 (h:qt ok lt xs=true) {i:Nat} (a:i < xs.length):sA ok lt xs i=true:=dn.1 h i (mem_range.2 a)
theorem aa3 (h:qt ok lt xs=true) {i:Nat} (a:i < xs.length):ok xs[i]=true:=by
 have:=aa2 h a;cases i with
 | zero=>rwa [mU a] at this
 | succ j=>rw [lC a,cU] at this;exact this.1
theorem Cn {i:Nat} (b:∀ j < i,sA ok lt xs j=true) (a:sA ok lt xs i=true):∀ k < i+1,sA ok lt xs k=true:=fun k hk=>by
 rcases bZ k i with h | h
 ·exact b k h
 ·obtain rfl:k=i:=ah
  exact a
end
def rN (w n:Int):Bool:=within w 1 16&&within n 1 8
def Sm (a b c d:Int):Bool:=decide (a < c)||(a==c&&decide (b < d))
theorem pM (w n:Int):Sq 223 [] [.agg [.I w,.I n]] [] (.bool (rN w n)):=by
 refine bf 21 1 [.tmp 2] mixed func223 ?_;refine s0 ?_;repeat' with_reducible first|apply And.intro|exact .dq|refine aD.bp (by assumption) ?_|refine pq (fun h=>?_) fun h=>?_|refine .id ?_|refine av.eS ah ?_ ?_|exact aJ|simp only [*,go_sem,seval]
 all_goals (simp_all [rN,within];try omega)
theorem P5 (a b c d:Int):Sq 224 [] [.agg [.I a,.I b],.agg [.I c,.I d]] [] (.bool (Sm a b c d)):=by
 refine bf 24 2 [.tmp 4] mixed func224 ?_;refine s0 ?_;repeat' with_reducible first|apply And.intro|exact .dq|refine aD.bp (by assumption) ?_|refine pq (fun h=>?_) fun h=>?_|refine .id ?_|refine av.eS ah ?_ ?_|exact aJ|simp only [*,go_sem,seval]
 all_goals (simp only [Sm];simp_all)
def aL.okB (t:aL):Bool:=within t.aZ 1 1048576&&(within t.aH 1 1073741824&&(t.jK != t.gK&&(rN t.jK t.inst&&rN t.gK t.inst)))
theorem wo (t:aL):Sq 225 [] [.agg t.cells] [] (.bool t.okB):=by
 have a:=pM t.jK t.inst;have b:=pM t.gK t.inst;simp only [aL.cells];refine bf 44 1 [.tmp 2] mixed func225 ?_;refine s0 ?_;repeat' with_reducible first|apply And.intro|exact .dq|refine aD.bp (by assumption) ?_|refine aD.bp (a) ?_|refine aD.bp (b) ?_|refine pq (fun h=>?_) fun h=>?_|refine .id ?_|refine av.eS ah ?_ ?_|exact aJ|simp only [*,go_sem,seval]
 all_goals first
  | (simp_all [aL.okB,within,bne];done)
  | (rw [lA];simp_all [aL.okB,within];omega)
def aF.okB (p:aF):Bool:=rN p.who p.inst&&(within p.aZ (-1099511627776) 1099511627776&&(bQ p.cost&&!(p.aZ==0&&p.cost==0)))
def lT (a b:aF):Bool:=Sm a.who a.inst b.who b.inst
def fu (n:Int) (l:List aF):List Int:=(l.filter (·.inst==n)).map aF.aZ
def tJ (n:Int) (l:List aF):Bool:=nW (fu n l)==0&&n9 (fu n l)==0
def tK (l:List aF):Bool:=(range 8).all fun i=>tJ ((i:Int)+1) l
theorem VB (n:Int) (l:List aF) {i:Nat} (h:i < l.length):fu n (l.take (i+1))=if l[i].inst==n then fu n (l.take i)++[l[i].aZ] else fu n (l.take i):=by
 simp only [fu];rw [l7 h,mK,jq];cases a:l[i].inst==n<;>simp [filter,a]
theorem OL (n:Int) (l:List aF):(fu n l).length<=l.length:=by
 simp only [fu,qn];exact length_filter_le _ _
theorem KN (l:List aF) (hl:l.length < 2 ^ 30):Sq 226 [] [.sl 4 (l.map aF.cells)] [] (.bool (tK l)):=by
 refine bf 41 1 [.tmp 2] mixed func226 ?_;refine s0 ?_;refine aM.count 8 [0] [] (fun i=>[(3,.I ((i:Int)+1))]) (fun i=>[]) (fun i=>∀ j < i,tJ ((j:Int)+1) l=true) (by simp) ?_ ?_
 ·simp only [go_sem,seval]<;>simp
 intro c hc u;rcases bZ c 8 with hc' | hc'
 case inr =>
  obtain rfl:c=8:=ah
  have e:tK l=true:=dn.2 fun j x=>u j (mem_range.1 x);simp only [go_sem,seval,e]<;>simp
 obtain ⟨n,s⟩:=aQ ((c:Int)+1);have z:decide (n<=8)=true:=iC;have C:IntKind.wrap .i64 (n+1)=((c+1:Nat):Int)+1:=gN;rw [<- s];refine sm z ?_;refine aM.wv l.length [0,3,13,14] [240] (fun i=>[(15,.I i),(4,.ref 464)]) (fun i=>[(464,.own 1 (ints (fu n (l.take i))))]) ?_ ?_ ?_
 ·simp only [go_sem,seval]<;>simp [fu,ints]
 ·intro i _ p q m _;have y:=aV (c:=aF.cells) l p;have g:=VB n l p;have f:=OL n (l.take i);have hlt:(l.take i).length<=l.length:=by simp;omega
  simp only [aF.cells] at y;refine sm (a2 q y) ?_;refine ⟨by omega,?_⟩;cases w:l[i].inst==n
  ·rw [w] at g;simp only [nJ,if_false] at g;refine sm m ?_;refine av.v p ?_;exact fL g
  ·rw [w,aq rfl] at g;simp only [go_sem,seval,m,aW];refine ⟨by omega,av.v p ?_⟩;simp only [go_sem,seval,g]<;>simp [ints]
 ·intro _ r _;have f:=OL n l;have k:=gz (fu n l) ah;have a:tJ n l=false->tK l=false:=fun t=>by
   cases B:tK l
   ·rfl
   ·have:=dn.1 B c (mem_range.2 hc');rw [<- s,t] at this;cases this
  have b:tJ n l=true->∀ j < c+1,tJ ((j:Int)+1) l=true:=fun t j x=>by
   rcases bZ j c with h | h
   ·exact u j h
   ·obtain rfl:j=c:=ah
    rw [<- s];exact t
  simp only [go_sem,seval,r,jr];refine sl aJ k ?_;cases d:nW (fu n l)==0
  ·simp only [go_sem,seval,bne,d,a (by simp [tJ,d])]
  cases o:n9 (fu n l)==0
  ·simp only [go_sem,seval,bne,d,o,a (by simp [tJ,d,o])]
  simp only [go_sem,seval,bne,d,o,C];refine av.eS hc' (b (by simp [tJ,d,o])) ?_
  exact gU
def mJ (n:Int) (t:aL):Bool:=t.okB&&(!decide (t.no < 1)&&!decide (n < t.no))
def lN (a b:aL):Bool:=decide (a.no < b.no)
def aI.okB (b:aI):Bool:=qt aF.okB lT b.qs&&(qt (mJ b.next) lN b.ts&&(tK b.qs&&(!decide (128 < (b.ts.length:Int))&&(!decide (b.next < 0)&&!decide (1099511627776 < b.next)))))
def aI.small (b:aI):Prop:=b.ts.length < 2 ^ 30/\b.qs.length < 2 ^ 30
theorem gX (b:aI) (hl:b.small):Sq 114 [] [.agg b.cells] [] (.I (if b.okB then 0 else 14)):=by
 obtain ⟨hl1,hl2⟩:=hl;have d:=KN b.qs ah;simp only [aI.cells];refine bf 124 1 [.tmp 2] mixed func114 ?_;refine s0 ?_;refine aM.count b.qs.length [1,8,9] [32,160] (fun i=>[(10,.I i)]) (fun i=>[]) (fun i=>∀ j < i,sA aF.okB lT b.qs j=true) (by simp) ?_ ?_
 ·simp only [go_sem,seval]<;>simp
 ·intro i x l;refine s0 ?_;refine bF.fM (fun h=>?_) (fun h=>?_)
  ·have a:i < b.qs.length:=ah
   have y:IntKind.wrap .i64 ((i:Int)+1)=((i+1:Nat):Int):=gN;have g:=aV (c:=aF.cells) b.qs a;have k:=pM b.qs[i].who b.qs[i].inst;have p:Sq 129 [] [.sl 1 [[.I b.qs[i].cost]]] [] (.bool (right [b.qs[i].cost])):=bY [b.qs[i].cost] (by simp);rw [o8] at p;have e0:=Cn (i:=i) l;have e1:sA aF.okB lT b.qs i=false->b.okB=false:=fun s=>by simp [aI.okB,JH a s]
   simp only [aF.cells] at g;rcases Nat.eq_zero_or_pos i with rfl | hpos
   ·have hk:=mU (ok:=aF.okB) (lt:=lT) a;simp only [aF.okB,within] at hk;clear d;refine sm g ?_;repeat' with_reducible first|apply And.intro|exact .dq|refine aD.bp (by assumption) ?_|refine aD.bp (k) ?_|(refine aD.iT [] [] true (by simp) ?_;simp only [go_sem,seval];refine cY.gB p ?_)|refine pq (fun h=>?_) fun h=>?_|refine .id ?_|refine av.eS ah ?_ ?_|exact aJ|simp only [*,go_sem,seval]
    all_goals exact clo
   ·obtain ⟨j,rfl⟩:∃ j,i=j+1:=⟨i-1,by omega⟩
    have q:j < b.qs.length:=ah
    have r:IntKind.wrap .i64 (((j+1:Nat):Int)-1)=(j:Int):=gN;have hk:=lC (ok:=aF.okB) (lt:=lT) a;simp only [aF.okB,within,lT] at hk;have f:=aV (c:=aF.cells) b.qs q;have w:=P5 b.qs[j].who b.qs[j].inst b.qs[j+1].who b.qs[j+1].inst;simp only [aF.cells] at f;clear d;refine sm g ?_;repeat' with_reducible first|apply And.intro|exact .dq|refine aD.bp (by assumption) ?_|refine aD.bp (k) ?_|refine aD.bp (w) ?_|(refine aD.iT [] [] true (by simp) ?_;simp only [go_sem,seval];refine cY.gB p ?_)|refine pq (fun h=>?_) fun h=>?_|refine .id ?_|refine av.eS ah ?_ ?_|exact aJ|simp only [*,go_sem,seval,f]
    all_goals exact clo
  ·obtain rfl:i=b.qs.length:=ah
   have n:=yE l;refine s0 ?_;refine aM.count b.ts.length [1,65,66] [32,1072] (fun i=>[(67,.I i)]) (fun i=>[]) (fun i=>∀ j < i,sA (mJ b.next) lN b.ts j=true) (by simp) ?_ ?_
   ·simp only [go_sem,seval]<;>simp
   ·intro i x l;refine s0 ?_;refine bF.fM (fun h=>?_) (fun h=>?_)
    ·have a:i < b.ts.length:=ah
     have y:IntKind.wrap .i64 ((i:Int)+1)=((i+1:Nat):Int):=gN;have g:=aV (c:=aL.cells) b.ts a;have k:=wo b.ts[i];have e0:=Cn (i:=i) l;have e1:sA (mJ b.next) lN b.ts i=false->b.okB=false:=fun s=>by simp [aI.okB,JH a s]
     simp only [aL.cells] at g k;rcases Nat.eq_zero_or_pos i with rfl | hpos
     ·have hk:=mU (ok:=mJ b.next) (lt:=lN) a;simp only [mJ] at hk;clear d n;refine sm g ?_;repeat' with_reducible first|apply And.intro|exact .dq|refine aD.bp (by assumption) ?_|refine aD.bp (k) ?_|refine pq (fun h=>?_) fun h=>?_|refine .id ?_|refine av.eS ah ?_ ?_|exact aJ|simp only [*,go_sem,seval]
      all_goals exact clo
     ·obtain ⟨j,rfl⟩:∃ j,i=j+1:=⟨i-1,by omega⟩
      have q:j < b.ts.length:=ah
      have r:IntKind.wrap .i64 (((j+1:Nat):Int)-1)=(j:Int):=gN;have hk:=lC (ok:=mJ b.next) (lt:=lN) a;simp only [mJ,lN] at hk;have f:=aV (c:=aL.cells) b.ts q;simp only [aL.cells] at f;clear d n;refine sm g ?_;repeat' with_reducible first|apply And.intro|exact .dq|refine aD.bp (by assumption) ?_|refine aD.bp (k) ?_|refine pq (fun h=>?_) fun h=>?_|refine .id ?_|refine av.eS ah ?_ ?_|exact aJ|simp only [*,go_sem,seval,f]
      all_goals exact clo
    ·obtain rfl:i=b.ts.length:=ah
     have u:=yE l;have e:b.okB=(tK b.qs&&(!decide (128 < (b.ts.length:Int))&&(!decide (b.next < 0)&&!decide (1099511627776 < b.next)))):=by simp [aI.okB,n,u]
     rw [e];clear e n u l;refine sc aJ d ?_;cases m:tK b.qs
     ·simp only [go_sem,seval,m]<;>simp
     cases o:decide (128 < (b.ts.length:Int))
     case true=>simp only [go_sem,seval,m,o]<;>simp
     cases t:decide (b.next < 0)
     case true=>simp only [go_sem,seval,m,o,t]<;>simp
     cases v:decide (1099511627776 < b.next)<;>simp only [go_sem,seval,m,o,t,v]<;>simp
def aC.zero:aC:=⟨0,0,0,0,0,0,0,0,0,0,0,0⟩
theorem My (xs:List aC) (n:Int) (hl:xs.length < 2 ^ 62):Sq 298 [] [.sl 12 (xs.map aC.cells),.fn 218 [],.I n] [] (.bT [.agg (iE aC.no n aC.zero xs).cells,.I (jt aC.no n xs)]):=by
 refine bf 27 3 [.cell 6 183,.tmp 7] mixed func298 ?_;refine s0 ?_;refine aM.count xs.length [1,2,6,11,12] [112,208] (fun i=>[(13,.I i)]) (fun i=>[]) (fun i=>∀ j (d:j < xs.length),j < i->xs[j].no≠n) (by simp) ?_ ?_
 ·simp only [go_sem,seval]<;>simp
 ·intro i hi k;refine s0 ?_;refine bF.fM (fun h=>?_) (fun h=>?_)
  ·have b:i < xs.length:=ah
   have m:IntKind.wrap .i64 ((i:Int)+1)=((i+1:Nat):Int):=gN;have l:=aV (c:=aC.cells) xs b;have e:=qa xs[i];simp only [aC.cells] at l e |-;refine sm l ?_;refine ⟨by omega,aD.bp e ?_⟩;refine s0 ?_;refine bF.split (fun a=>?_) (fun a=>?_)
   ·have a:xs[i].no=n:=by simpa using a
    obtain ⟨f,g⟩:=rH (z:=aC.zero) b k a;rw [f,g];exact gU
   ·have a:xs[i].no≠n:=by simpa using a
    refine sm m ?_;refine av.eS b ?_ ?_
    ·intro j d hji;rcases bZ j i with h | h
     ·exact k j d h
     ·obtain rfl:j=i:=ah
      exact a
    ·exact gU
  ·obtain rfl:i=xs.length:=ah
   obtain ⟨f,g⟩:=oO (z:=aC.zero) (fun j d=>k j d d);rw [f,g];simp only [go_sem,seval,aC.cells,aC.zero]
def bA (r:az) (n:Int):aC:=iE aC.no n aC.zero r.ns
def bJ (r:az) (n:Int):Bool:=decide (0<=jt aC.no n r.ns)
theorem gq (r:az) (n:Int) (b:r.small):Sq 227 [] [.agg r.cells,.I n] [] (.bT [.agg (bA r n).cells,.bool (bJ r n)]):=by
 have h:=My r.ns n (by have:=b.2.1;omega);obtain ⟨g,a⟩:=aQ (iE aC.no n aC.zero r.ns);simp only [bA,bJ];rw [<- a] at h |-;simp only [aC.cells] at h |-;simp only [az.cells];refine bf 18 2 [.cell 4 183,.tmp 5] mixed func227 ?_;exact jW aJ h
structure gH where
 i:aC
 q:Int
@[reducible] def gH.cells (x:gH):List D:=[.I x.i.no,.I x.i.cur,.I x.i.mult,.I x.i.add,.I x.i.set,.I x.i.aH,.I x.i.s0,.I x.i.s1,.I x.i.s2,.I x.i.s3,.I x.i.s4,.I x.i.s5,.I x.q]
def SZ (r:az) (w c:Int) (p:aF):Bool:=bJ r p.inst&&(p.who==w&&(bA r p.inst).cur==c)
def Aj (r:az) (w c:Int) (qs:List aF):List gH:=(qs.filter (SZ r w c)).map fun p=>⟨bA r p.inst,p.aZ⟩
def Gz (p:aF):Bool:=!decide (p.aZ < -1099511627776)&&!decide (1099511627776 < p.aZ)
def Uh (r:az) (qs:List aF):Int:=if r.okB then (if qs.all Gz then 0 else 3) else 14
def Y6 (r:az) (w c:Int) (qs:List aF):List gH:=if Uh r qs=0 then Aj r w c qs else []
theorem acs (r:az) (w c:Int) (l:List aF) {i:Nat} (h:i < l.length):Aj r w c (l.take (i+1))=if SZ r w c l[i] then Aj r w c (l.take i)++[⟨bA r l[i].inst,l[i].aZ⟩] else Aj r w c (l.take i):=by
 simp only [Aj];rw [l7 h,mK,jq];cases a:SZ r w c l[i]<;>simp [filter,a]
theorem Qs (r:az) (w c:Int) (l:List aF):(Aj r w c l).length<=l.length:=by
 simp only [Aj,qn];exact length_filter_le _ _
theorem Hj (r:az) (w c:Int) (qs:List aF) (hr:r.small) (hq:qs.length < 2 ^ 30):Sq 255 [] [.agg r.cells,.I w,.I c,.sl 4 (qs.map aF.cells)] [.own 13 ((Y6 r w c qs).map gH.cells)] (.bT [.ref 0,.I (Uh r qs)]):=by
 have C:=dN r hr;have D:=fun n=>gq r n hr;simp only [az.cells] at C D |-;refine bf 66 4 [.tmp 8,.tmp 9] mixed func255 ?_;refine sc aJ C ?_;cases B:r.okB
 ·have e:Uh r qs=14:=by simp [Uh,B]
  have e2:Y6 r w c qs=[]:=by simp [Y6,e]
  simp only [go_sem,seval,e,e2]<;>simp
 refine s0 ?_;refine aM.wu qs.length [1,2,4,21,22] [80,368] (fun i=>[(23,.I i),(11,.ref 1024)]) (fun i=>[(1024,.own 13 ((Aj r w c (qs.take i)).map gH.cells))]) (fun i=>∀ j (l:j < qs.length),j < i->Gz qs[j]=true) (by intros;omega) ?_ ?_ ?_
 ·simp only [go_sem,seval]<;>simp [Aj]
 ·intro i _ g F b s;have H:=aV (c:=aF.cells) qs g;have a:=acs r w c qs g;have hlen:=Qs r w c (qs.take i);have hlt:(qs.take i).length<=qs.length:=by simp;omega
  have E:=D qs[i].inst;obtain ⟨x,J⟩:=aQ (bA r qs[i].inst);have d:Gz qs[i]=false->Uh r qs=3:=fun t=>by
   have:qs.all Gz=false:=by
    cases K:qs.all Gz
    ·rfl
    ·rw [dn.1 K _ (ck g)] at t;cases t
   simp [Uh,B,this]
  have k:Gz qs[i]=true->∀ j (l:j < qs.length),j < i+1->Gz qs[j]=true:=fun t j l hji=>by
   rcases bZ j i with h | h
   ·exact s j l h
   ·obtain rfl:j=i:=ah
    exact t
  simp only [SZ,<- J] at a;rw [<- J] at E;simp only [aF.cells] at H;simp only [aC.cells] at E;clear D C s;refine sm (a2 F H) ?_;refine ⟨by omega,?_⟩;cases q:decide (qs[i].aZ < -1099511627776)
  case true =>
   have e:=d (by simp [Gz,q]);have e2:Y6 r w c qs=[]:=by simp [Y6,e]
   simp only [go_sem,seval,q,e,e2]<;>simp
  cases z:decide (1099511627776 < qs[i].aZ)
  case true =>
   have e:=d (by simp [Gz,z]);have e2:Y6 r w c qs=[]:=by simp [Y6,e]
   simp only [go_sem,seval,q,z,e,e2]<;>simp
  have v:=k (by simp [Gz,q,z]);refine sc (a2 q z) E ?_;cases f:bJ r qs[i].inst
  ·simp only [f,gV,nJ,if_false] at a;refine sm (a2 f b) ?_;refine av.u g v ?_;exact fL a
  cases m:qs[i].who==w
  ·simp only [f,m,gV,fc,nJ,if_false] at a;refine sm (a3 f m b) ?_;refine av.u g v ?_;exact fL a
  cases y:x.cur==c
  ·simp only [f,m,y,Bool.and_false,fc,nJ,if_false] at a;refine sm (a4 f m y b) ?_;refine av.u g v ?_;exact fL a
  simp only [f,m,y,Bool.and_self,if_true] at a;refine sm (a4 f m y b) ?_;refine ⟨by omega,av.u g v ?_⟩;simp only [go_sem,seval,a]<;>simp
 ·intro _ G s;have o:qs.all Gz=true:=dn.2 fun p L=>by
   obtain ⟨j,l,rfl⟩:=mem_iff_getElem.1 L;exact s j l l
  have e:Uh r qs=0:=by simp [Uh,B,o]
  have e2:Y6 r w c qs=Aj r w c qs:=by simp [Y6,e]
  simp only [go_sem,seval,G,jr,e,e2]<;>simp
def uA (j:Nat) (p:gH):Int:=-p.q*p.i.mult*p.i.sh j
def oo (l:List gH) (j:Nat):Int:=aG (l.map (uA j))
def Jr (p:gH):Int:=max p.q (-p.q)*p.i.add
def I6 (p:gH):Prop:=p.i.ok=true /\ -1099511627776<=p.q/\p.q<=1099511627776
theorem LJ {x:aC} (h:x.ok=true) (j:Nat):-1073741824<=x.sh j/\x.sh j<=1073741824:=by
 simp only [aC.ok,cU] at h;have a:=h.1.1.1.1.1.1;simp only [aC.WR,dn,mem_range,within,cU,bL] at a;rcases bZ j 6 with hj | hj
 ·exact a j hj
 ·have e:x.sh j=x.sh 5:=by
   rcases j with _ | _ | _ | _ | _ | _ | j<;>first | omega | rfl
  rw [e];exact a 5 ah
theorem u7 {x:aC} (h:x.ok=true):(1<=x.mult/\x.mult<=1024)/\(0<=x.add/\x.add<=1073741824):=by
 simp only [aC.ok,within,cU,bL] at h;omega
theorem jV {a b A B:Int} (ha:-A<=a/\a<=A) (hb:-B<=b/\b<=B):-(A*B)<=a*b/\a*b<=A*B:=by
 have c:0<=A:=ah
 have d:0<=B:=ah
 have h:a.natAbs*b.natAbs<=A.natAbs*B.natAbs:=Nat.mul_le_mul ah ah;have h1:(a*b).natAbs=a.natAbs*b.natAbs:=Int.natAbs_mul a b;have h2:(A*B).natAbs=A.natAbs*B.natAbs:=Int.natAbs_mul A B;have h3:0<=A*B:=Int.mul_nonneg c d;omega
theorem G7 {p:gH} (h:I6 p) (j:Nat):(-1125899906842624 <= -p.q*p.i.mult /\ -p.q*p.i.mult<=1125899906842624) /\ -1208925819614629174706176<=uA j p/\uA j p<=1208925819614629174706176:=by
 obtain ⟨c,h2,h3⟩:=h;obtain ⟨⟨m1,m2⟩,-⟩:=u7 c;have s:=LJ c j;have r1:=jV (a:=-p.q) (b:=p.i.mult) (A:=1099511627776) (B:=1024) ah ah;have r1:-1125899906842624 <= -p.q*p.i.mult /\ -p.q*p.i.mult<=1125899906842624:=r1;have r2:=jV (a:=-p.q*p.i.mult) (b:=p.i.sh j) (A:=1125899906842624) (B:=1073741824) r1 s;exact ⟨r1,r2⟩
theorem Uq {p:gH} (h:I6 p):-1208925819614629174706176<=Jr p/\Jr p<=1208925819614629174706176:=by
 obtain ⟨c,h2,h3⟩:=h;obtain ⟨-,m1,m2⟩:=u7 c;have r1:=jV (a:=max p.q (-p.q)) (b:=p.i.add) (A:=1099511627776) (B:=1099511627776) ah ah;exact r1
theorem LV {l:List Int} {B:Int} (h:∀ n∈l,-B<=n/\n<=B):-(B*l.length)<=aG l/\aG l<=B*l.length:=by
 induction l with
 | nil=>simp [aG]
 | cons x r ih =>
  have h1:=h x (by simp);have h2:=ih fun n a=>h n (by simp [a]);have e:B*((x :: r).length:Int)=B*(r.length:Int)+B:=by
   have:(((x :: r).length:Nat):Int)=(r.length:Int)+1:=by simp
   rw [this,Int.mul_add,Int.mul_one]
  rw [e];simp only [aG];omega
theorem PV {B x:Int} (h:-B<=x/\x<=B) (hB:B<=85070591730234615865843651857942052864):Oa x=true:=by
 simp only [Oa,cU,bL];omega
theorem aeW {l:List gH} (h:∀ p∈l,I6 p) (j:Nat) (hl:l.length < 2 ^ 30):(∀ n∈l.map (uA j),Oa n=true)/\Oa (oo l j)=true:=by
 have b:∀ n∈l.map (uA j),-1208925819614629174706176<=n/\n<=1208925819614629174706176:=by
  intro n a;obtain ⟨p,d,rfl⟩:=mem_map.1 a;exact (G7 (h p d) j).2
 refine ⟨fun n a=>PV (b n a) ah,?_⟩;have c:=LV (B:=1208925819614629174706176) b;simp only [qn] at c;refine PV (B:=1208925819614629174706176*(l.length:Int)) c ah
def lF (l:List gH) (i:Nat) (j:Nat):D:=.I (if j < i then oo l j else 0)
def iO (l:List gH) (i:Nat):List D:=[lF l i 0,lF l i 1,lF l i 2,lF l i 3,lF l i 4,lF l i 5]
theorem SA (l:List gH) {i:Nat} (h:i < 6):gD (iO l i) (i*1) [.I (oo l i)]=iO l (i+1):=by
 rcases i with _ | _ | _ | _ | _ | _ | i<;>first | omega | simp [iO,lF,gD]
theorem vg (l:List gH):iO l 0=[.I 0,.I 0,.I 0,.I 0,.I 0,.I 0]:=by simp [iO,lF]
def pJ (l:List gH):Bool:=(range 6).any fun j=>!bQ (oo l j)
def DL (r:az) (w c:Int) (qs:List aF):Int:=if Uh r qs=0 then (if pJ (Aj r w c qs) then 1 else 0) else Uh r qs
def Sz (r:az) (w c:Int) (qs:List aF):List D:=if DL r w c qs=0 then iO (Aj r w c qs) 6 else iO [] 0
theorem RZ {A:Type} {no:A->Int} {n:Int} {z:A}:∀ {xs:List A},0<=jt no n xs->iE no n z xs∈xs/\no (iE no n z xs)=n
 | [],h=>by simp [jt] at h
 | x :: r,h=>by
  simp only [jt] at h;simp only [iE];split at h
  ·rename_i a;rw [aq a];exact ⟨by simp,a⟩
  ·rename_i a;rw [ak a];split at h
   ·omega
   ·have:=RZ (no:=no) (n:=n) (z:=z) (xs:=r) ah;exact ⟨mem_cons_of_mem _ this.1,this.2⟩
theorem D7 {A:Type} {no:A->Int} {ok:A->Bool} {xs:List A} (h:kr no ok xs=true):∀ x∈xs,ok x=true:=by
 intro x b;obtain ⟨i,a,rfl⟩:=mem_iff_getElem.1 b;have:=dn.1 h i (mem_range.2 a);rcases Nat.eq_zero_or_pos i with rfl | hp
 ·rwa [nU no ok xs a ah] at this
 ·rw [nh no ok xs a hp,cU] at this;exact this.1
theorem Oe {r:az} (h:r.okB=true) {n:Int} (a:bJ r n=true):(bA r n).ok=true:=by
 simp only [az.okB,cU] at h;exact D7 h.1.2 _ (RZ (by simpa [bJ] using a)).1
theorem S4 {r:az} {w c:Int} {qs:List aF} (h:Uh r qs=0):∀ p∈Aj r w c qs,I6 p:=by
 have b:r.okB=true/\qs.all Gz=true:=by
  unfold Uh at h;split at h
  ·rename_i e;split at h
   ·rename_i f;exact ⟨e,f⟩
   ·cases h
  ·cases h
 intro p d;simp only [Aj,mem_map,mem_filter] at d;obtain ⟨x,⟨i,a⟩,rfl⟩:=d;have g:=dn.1 b.2 x i;simp only [Gz,cU,iK,gM] at g;refine ⟨?_,by simp only;omega,by simp only;omega⟩;simp only [SZ,cU] at a;exact Oe b.1 a.1
theorem apE (p:gH) {i:Nat} (h:i < 6):(drop (6+i*1) p.cells).headD .undef=.I (p.i.sh i):=by
 rcases i with _ | _ | _ | _ | _ | _ | i<;>first | rfl | omega
theorem SB (r:az) (w c:Int) (qs:List aF) (hr:r.small) (hq:qs.length < 2 ^ 30):Sq 254 [] [.agg r.cells,.I w,.I c,.sl 4 (qs.map aF.cells)] [] (.bT [.agg (Sz r w c qs),.I (DL r w c qs)]):=by
 have R:=Hj r w c qs hr hq;simp only [az.cells] at R |-;refine bf 77 4 [.cell 8 64,.tmp 9] mixed func254 ?_;refine so aJ R ?_;by_cases o:Uh r qs=0
 case neg =>
  have Z:(Uh r qs != 0)=true:=by simpa using o
  have D:DL r w c qs=Uh r qs:=by simp [DL,o]
  have e2:Sz r w c qs=iO [] 0:=by simp [Sz,D,o]
  rw [D,e2,vg];exact fL Z
 have C:=S4 (w:=w) (c:=c) o;have T:=Qs r w c qs;have D:Y6 r w c qs=Aj r w c qs:=by simp [Y6,o]
 have e2:DL r w c qs=if pJ (Aj r w c qs) then 1 else 0:=by simp [DL,o]
 simp only [Sz,e2,D];clear D e2;obtain ⟨l,Y⟩:=aQ (Aj r w c qs);rw [<- Y] at C T |-;clear R Y;have hz:=vg l;refine sm o ?_;refine aM.wu 6 [8,10,11] [144,400] (fun i=>[(31,.I i)]) (fun i=>[(176,.box (iO l i))]) (fun i=>∀ j < i,bQ (oo l j)=true) (by intros;omega) ?_ ?_ ?_
 ·simp only [go_sem,seval,hz]<;>simp
 ·intro j _ J t V M;have t:decide ((j:Int) < 6)=true:=t;have n:=aeW C j ah;have b:=SA l J;obtain ⟨B,L⟩:=aQ (iO l j);have hBl:B.length=6:=by rw [L];rfl
  have m:∀ d∈iO l (j+1),kN d=true:=by simp [iO,lF,kN]
  have a:∀ d∈B,kN d=true:=by rw [L];simp [iO,lF,kN]
  rw [<- L] at b |-;refine sm t ?_;refine aM.wv l.length [8,10,11,13,31,34,35] [144,176,400] (fun i=>[(36,.I i),(14,.ref 896)]) (fun i=>[(896,.own 2 (Pa ((l.take i).map (uA j))))]) ?_ ?_ ?_
  ·simp only [go_sem,seval]<;>simp [Pa,mY a,KC a]
  ·intro i _ g P U _;have Q:=aV (c:=gH.cells) l g;have z:=C l[i] (ck g);obtain ⟨p,G⟩:=aQ (l[i]);have y:Pa ((l.take (i+1)).map (uA j))=Pa ((l.take i).map (uA j))++[wd (uA j p)]:=by
    rw [l7 g,G];simp only [Pa,jq,map_cons,map_nil]
   rw [<- G] at Q z;obtain ⟨r1,r2⟩:=G7 z j;obtain ⟨k1,k2,k3⟩:=z;have hsr:=LJ k1 j;have w1:IntKind.wrap .i64 (0-p.q) = -p.q:=gN;have w2:IntKind.wrap .i64 (-p.q*p.i.mult) = -p.q*p.i.mult:=gA ah ah;have ht:=lg (-p.q*p.i.mult) (p.i.sh j) ah ah;have H:=apE p J;have F:(Pa ((l.take i).map (uA j))).length=i:=by simp [Pa];omega
   simp only [gH.cells] at Q H;refine sc (a5 P Q w1 w2 (a3 H U F)) ht ?_;refine dP ?_;refine av.v g ?_;simp only [go_sem,seval,y,uA]<;>simp [wd,mY a,KC a]
  ·intro _ f _;have K:=vM (l.map (uA j)) (by simp;omega) n.1;have s:=lP (oo l j);have e:aG (l.map (uA j))=oo l j:=rfl;rw [e,n.2,aq rfl,aq rfl] at K;obtain ⟨S,N⟩:=aQ (oo l j);rw [<- N] at K s b;have x:bQ S=true->∀ k < j+1,bQ (oo l k)=true:=fun W k X=>by
    rcases bZ k j with h | h
    ·exact M k h
    ·obtain rfl:k=j:=ah
     rw [<- N];exact W
   have E:bQ S=false->pJ l=true:=fun W=>by
    simp only [pJ,any_eq_true,mem_range];exact ⟨j,J,by rw [<- N,W];rfl⟩
   simp only [wd] at K s;simp only [go_sem,seval,f,jr];refine sl aJ K ?_;refine aD.bp s ?_;cases g:bQ S
   ·have O:=E g;simp only [go_sem,seval,g,O,iO,lF];exact okx
   ·simp only [go_sem,seval] at b;refine sm (a3 g b V) ?_;refine dP ?_;refine av.u J (x g) ?_;refine s0 ?_;exact mY m
 ·intro _ f M;have f:decide ((6:Int) < 6)=false:=f;have O:pJ l=false:=by
   simp only [pJ,any_eq_false,mem_range];intro k X;simp [M k X]
  simp only [go_sem,seval,f,O,iO,lF]
def AE (f:Nat->Int):Nat->Int
 | 0=>0
 | i+1=>max (AE f i) (f i)
theorem SL {f:Nat->Int} (n:Nat) (h:∀ j < n,bQ (f j)=true):0<=AE f n/\AE f n<=4611686018427387904:=by
 induction n with
 | zero=>simp [AE]
 | succ n ih =>
  have h1:=ih fun j hj=>h j ah;have h2:=bI.1 (h n ah);simp only [AE];omega
def SD (l:List gH):Int:=aG (AE (oo l) 6 :: l.map Jr)
def KQ (r:az) (w c:Int) (qs:List aF):Int:=if DL r w c qs=0 then (if bQ (SD (Aj r w c qs)) then 0 else 1) else DL r w c qs
def wJ (r:az) (w c:Int) (qs:List aF):Int:=if DL r w c qs=0 then (if bQ (SD (Aj r w c qs)) then SD (Aj r w c qs) else 0) else 0
theorem aj9 (f:Nat->Int) {i:Nat} (h:i < 6):(drop (i*1) [D.I (f 0),D.I (f 1),D.I (f 2),D.I (f 3),D.I (f 4),D.I (f 5)]).headD .undef=.I (f i):=by
 rcases i with _ | _ | _ | _ | _ | _ | i<;>first | rfl | omega
theorem YE {r:az} {w c:Int} {qs:List aF} (h:DL r w c qs=0):Uh r qs=0/\pJ (Aj r w c qs)=false:=by
 unfold DL at h;split at h
 ·rename_i a;refine ⟨a,?_⟩;cases b:pJ (Aj r w c qs)
  ·rfl
  ·rw [b] at h;cases h
 ·rename_i a;exact (a h).elim
theorem Vd {l:List gH} (h:pJ l=false):∀ j < 6,bQ (oo l j)=true:=by
 intro j a;simp only [pJ,any_eq_false,mem_range] at h;simpa using h j a
theorem SF (r:az) (w c:Int) (qs:List aF) (hr:r.small) (X:qs.length < 2 ^ 30):Sq 158 [] [.agg r.cells,.I w,.I c,.sl 4 (qs.map aF.cells)] [] (.bT [.I (wJ r w c qs),.I (KQ r w c qs)]):=by
 have o:=Hj r w c qs hr X;have K:=SB r w c qs hr X;simp only [az.cells] at o K |-;refine bf 83 4 [.tmp 8,.tmp 9] mixed func158 ?_;refine sc aJ K ?_;by_cases d:DL r w c qs=0
 case neg =>
  have Z:(DL r w c qs != 0)=true:=by simpa using d
  have F:KQ r w c qs=DL r w c qs:=by simp [KQ,d]
  have e2:wJ r w c qs=0:=by simp [wJ,d]
  have G:Sz r w c qs=iO [] 0:=by simp [Sz,d]
  rw [F,e2,G,vg];exact fL Z
 obtain ⟨j,e⟩:=YE d;have k:=S4 (w:=w) (c:=c) j;have Q:=Qs r w c qs;have F:Y6 r w c qs=Aj r w c qs:=by simp [Y6,j]
 have e2:KQ r w c qs=if bQ (SD (Aj r w c qs)) then 0 else 1:=by simp [KQ,d]
 have G:wJ r w c qs=if bQ (SD (Aj r w c qs)) then SD (Aj r w c qs) else 0:=by simp [wJ,d]
 have S:Sz r w c qs=[.I (oo (Aj r w c qs) 0),.I (oo (Aj r w c qs) 1),.I (oo (Aj r w c qs) 2),.I (oo (Aj r w c qs) 3),.I (oo (Aj r w c qs) 4),.I (oo (Aj r w c qs) 5)]:=by simp [Sz,d,iO,lF]
 rw [F] at o;rw [e2,G,S];clear F e2 G S K;obtain ⟨l,W⟩:=aQ (Aj r w c qs);rw [<- W] at k Q o e |-;clear W;have u:=Vd e;obtain ⟨L,N⟩:=aQ (oo l);obtain ⟨T,t⟩:=aQ (SD l);rw [<- t];simp only [SD] at t;rw [<- N] at u t |-;refine sm d ?_;refine aM.wv 6 [1,2,3,4,32] [80,176] (fun i=>[(33,.I i),(12,.I (AE L i))]) (fun i=>[]) ?_ ?_ ?_
 ·simp only [go_sem,seval]<;>simp [AE]
 ·intro i _ g a m _;have a:decide ((i:Int) < 6)=true:=a;have R:=aj9 L g;refine sm (a3 a R m) ?_;refine dP ?_;refine av.v g ?_;simp only [go_sem,seval,AE]
 ·intro _ b _;have b:decide ((6:Int) < 6)=false:=b;have P:=SL (f:=L) 6 u;obtain ⟨M,hM⟩:=aQ (AE L 6);rw [<- hM] at P t |-;have U:=Hy M ah;simp only [wd] at U;refine sc b U ?_;refine so j o ?_;refine aM.wv l.length [51,52] [784,848] (fun i=>[(53,.I i),(15,.ref 1120)]) (fun i=>[(1120,.own 2 (Pa (M :: (l.take i).map Jr)))]) ?_ ?_ ?_
  ·simp only [go_sem,seval]<;>simp [Pa,wd]
  ·intro i _ g a m _;have O:=aV (c:=gH.cells) l g;have E:=k l[i] (ck g);obtain ⟨p,D⟩:=aQ (l[i]);have h:Pa (M :: (l.take (i+1)).map Jr)=Pa (M :: (l.take i).map Jr)++[wd (Jr p)]:=by
    rw [l7 g,jq,D];simp only [Pa,jq,map_cons,map_nil,cons_append]
   rw [<- D] at O E;obtain ⟨k1,k2,k3⟩:=E;obtain ⟨-,g1,g2⟩:=u7 k1;have w1:IntKind.wrap .i64 (0-p.q) = -p.q:=gN;obtain ⟨x,Y⟩:=aQ (max p.q (-p.q));have hxr:-1099511627776<=x/\x<=1099511627776:=ah
   have ht:=lg x p.i.add ah ah;have z:(Pa (M :: (l.take i).map Jr)).length=i+1:=by simp [Pa];omega
   have ha:Jr p=x*p.i.add:=by rw [Y];rfl
   simp only [gH.cells] at O;refine sm (a3 a O w1) ?_;rw [<- Y];refine sc (a2 m z) ht ?_;refine dP ?_;refine av.v g ?_;simp only [go_sem,seval,h,ha]<;>simp [wd]
  ·intro _ b _;have V:∀ n∈M :: l.map Jr,-1208925819614629174706176<=n/\n<=1208925819614629174706176:=by
    intro n C;rcases mem_cons.1 C with rfl | C
    ·omega
    ·obtain ⟨p,o,rfl⟩:=mem_map.1 C;exact Uq (k p o)
   have H:=vM (M :: l.map Jr) (by simp;omega) (fun n C=>PV (V n C) ah);have J:=LV (B:=1208925819614629174706176) V;rw [<- t] at H J;simp only [length_cons,qn] at J;have y:Oa T=true:=PV (B:=1208925819614629174706176*((l.length+1:Nat):Int)) J ah;have s:=lP T;rw [y,aq rfl,aq rfl] at H;simp only [wd] at H s;simp only [go_sem,seval,b,jr];refine sl aJ H ?_;exact jW aJ s
section
variable {A:Type} {no:A->Int} {ok:A->Bool} {xs:List A}
theorem Zn (h:∀ i < xs.length,gG no ok xs i=true):kr no ok xs=true:=dn.2 fun i a=>h i (mem_range.1 a)
end
theorem Spec.frozen {P:Program} {f:FuncId} {ds a:List D} {d:D} (h:Abs.Spec P f [] ds a d) (fz:List Nat) {g:List D} {p:D} (G:(fD fz (tL [(0,d)] (wK 0 a))).t 0=p) (I:∀ r,(fD fz (tL [(0,d)] (wK 0 a))).o r=g.getD r .undef):Abs.Spec P f [] ds g p:=by
 refine ⟨h.1,?_⟩;intro w x n k y vs q l F m hr c;refine (h.2 w x n k y vs q l F m hr c).mono ?_;rintro e w' ⟨v,rfl,o⟩;refine ⟨v,rfl,o.os,o.tape,o.output,o.size,o.old,o.part,?_⟩;obtain ⟨lev,own,S,z,B,C,E,_⟩:=o.rep;have H:Inv w x n S w' lev own S (tL [(0,d)] (wK 0 a)) (fun j=>if j=0 then v else Go.undef):=by
  refine ⟨⟨o.os,q⟩,o.tape,o.output,o.size,o.old,o.part,z,B,fun _ _ _=>rfl,?_,?_⟩
  ·intro s;show aK _ _ (Abs.look [(0,d)] s);by_cases u:s=0
   ·subst u;simpa [Abs.look] using C
   ·simp only [Abs.look,ak u];exact .undef _
  ·intro r;show lQ _ _ _ _ _ _ r (Abs.look (wK 0 a) r);rw [rW];simpa using E r
 obtain ⟨lev',S',b⟩:=Inv.abp fz H (fun _ _=>trivial);refine ⟨lev',own,S',b.priv,b.jZ,?_,?_,fun i h=>by cases h⟩
 ·have:=b.oC 0;rw [G] at this;simpa using this
 ·intro r;have:=b.objs r;rwa [I] at this
def az.lp (r:az):Prop:=r.ms.length < 2 ^ 30/\r.ns.length < 2 ^ 30/\r.xs.length < 2 ^ 30
theorem az.lp.small {r:az} (h:r.lp):r.small:=⟨by have:=h.1;omega,by have:=h.2.1;omega,by have:=h.2.2;omega⟩
structure af.small (s:af):Prop where
 aj:s.aj.lp
 book:s.book.small
 bu:s.bu.bs.length < 2 ^ 30
 ps:s.ps.length < 2 ^ 30
 calls:s.calls.length < 2 ^ 30
 bH:s.bH.length < 2 ^ 30
 aA:s.aA.length < 2 ^ 30
 rs:∀ x∈s.aA,x.r.fits
def aP.same (x y:aP):Bool:=x.kind==y.kind&&(x.who==y.who&&x.cur==y.cur)
theorem pW {x y:aP}:x.less y=true ↔ x.kind < y.kind\/(x.kind=y.kind/\(x.who < y.who\/(x.who=y.who/\x.cur < y.cur))):=by
 unfold aP.less;split
 ·simp;omega
 ·split<;>simp<;>omega
theorem Eb {x y:aP}:x.same y=true ↔ x.kind=y.kind/\x.who=y.who/\x.cur=y.cur:=by simp [aP.same]
theorem SY {bs:List cq} (h:lE bs=true):bs.Pairwise (fun x y=>x.bz.less y.bz=true):=by
 rw [qo];have step:∀ k (a:k+1 < bs.length),bs[k].bz.less bs[k+1].bz=true:=fun k a=>by
  have:=dn.1 h (k+1) (mem_range.2 a);rw [oS a,cU] at this;exact this.2
 have key:∀ d k (a:k+d+1 < bs.length),bs[k].bz.less bs[k+d+1].bz=true:=by
  intro d;induction d with
  | zero=>intro k a;exact step k a
  | succ d ih =>
   intro k a;have h1:=pW.1 (ih k ah);have h2:=pW.1 (step (k+d+1) a);have b:bs[k].bz.less bs[k+d+1+1].bz=true:=pW.2 ah;exact b
 intro i j hi hj hij;have:=key (j-i-1) i ah;have e:i+(j-i-1)+1=j:=ah
 simpa only [e] using this
theorem vS (xs:List au) (hl:xs.length < 2 ^ 30):Sq 131 [] [.sl 3 (xs.map au.cells)] [.own 3 (xs.map au.cells)] (.ref 0):=by
 refine bf 8 1 [.tmp 2] mixed func131 ?_;refine s0 ?_;refine dH.v9 ap8 rfl ah ?_;intro b a;repeat' with_reducible first|apply And.intro|exact .dq|refine aD.bp (by assumption) ?_|refine pq (fun h=>?_) fun h=>?_|refine .id ?_|refine av.eS ah ?_ ?_|exact aJ|simp only [*,go_sem,seval,qn]
 all_goals first
  | omega
  | (rw [a (by assumption)])
  | skip
theorem oG (xs:List au) (a:xs.length < 2 ^ 30):Sq 131 [] [.sl 3 (xs.map au.cells)] [] (.sl 3 (xs.map au.cells)):=by
 refine Spec.frozen (vS xs a) [0] rfl ?_;intro r;rcases r with _ | r<;>rfl
theorem Au (xs:List aC) (hl:xs.length < 2 ^ 30):Sq 132 [] [.sl 12 (xs.map aC.cells)] [.own 12 (xs.map aC.cells)] (.ref 0):=by
 refine bf 8 1 [.tmp 2] mixed func132 ?_;refine s0 ?_;refine dH.v9 ap9 rfl ah ?_;intro b a;repeat' with_reducible first|apply And.intro|exact .dq|refine aD.bp (by assumption) ?_|refine pq (fun h=>?_) fun h=>?_|refine .id ?_|refine av.eS ah ?_ ?_|exact aJ|simp only [*,go_sem,seval,qn]
 all_goals first
  | omega
  | (rw [a (by assumption)])
  | skip
theorem rD (xs:List aC) (a:xs.length < 2 ^ 30):Sq 132 [] [.sl 12 (xs.map aC.cells)] [] (.sl 12 (xs.map aC.cells)):=by
 refine Spec.frozen (Au xs a) [0] rfl ?_;intro r;rcases r with _ | r<;>rfl
theorem xk (xs:List ay) (hl:xs.length < 2 ^ 30):Sq 133 [] [.sl 4 (xs.map ay.cells)] [.own 4 (xs.map ay.cells)] (.ref 0):=by
 refine bf 8 1 [.tmp 2] mixed func133 ?_;refine s0 ?_;refine dH.v9 ap' rfl ah ?_;intro b a;repeat' with_reducible first|apply And.intro|exact .dq|refine aD.bp (by assumption) ?_|refine pq (fun h=>?_) fun h=>?_|refine .id ?_|refine av.eS ah ?_ ?_|exact aJ|simp only [*,go_sem,seval,qn]
 all_goals first
  | omega
  | (rw [a (by assumption)])
  | skip
theorem qu (xs:List ay) (a:xs.length < 2 ^ 30):Sq 133 [] [.sl 4 (xs.map ay.cells)] [] (.sl 4 (xs.map ay.cells)):=by
 refine Spec.frozen (xk xs a) [0] rfl ?_;intro r;rcases r with _ | r<;>rfl
theorem xp (xs:List aL) (hl:xs.length < 2 ^ 30):Sq 134 [] [.sl 7 (xs.map aL.cells)] [.own 7 (xs.map aL.cells)] (.ref 0):=by
 refine bf 8 1 [.tmp 2] mixed func134 ?_;refine s0 ?_;refine dH.v9 aur rfl ah ?_;intro b a;repeat' with_reducible first|apply And.intro|exact .dq|refine aD.bp (by assumption) ?_|refine pq (fun h=>?_) fun h=>?_|refine .id ?_|refine av.eS ah ?_ ?_|exact aJ|simp only [*,go_sem,seval,qn]
 all_goals first
  | omega
  | (rw [a (by assumption)])
  | skip
theorem qw (xs:List aL) (a:xs.length < 2 ^ 30):Sq 134 [] [.sl 7 (xs.map aL.cells)] [] (.sl 7 (xs.map aL.cells)):=by
 refine Spec.frozen (xp xs a) [0] rfl ?_;intro r;rcases r with _ | r<;>rfl
theorem PG (xs:List aF) (hl:xs.length < 2 ^ 30):Sq 135 [] [.sl 4 (xs.map aF.cells)] [.own 4 (xs.map aF.cells)] (.ref 0):=by
 refine bf 8 1 [.tmp 2] mixed func135 ?_;refine s0 ?_;refine dH.v9 aus rfl ah ?_;intro b a;repeat' with_reducible first|apply And.intro|exact .dq|refine aD.bp (by assumption) ?_|refine pq (fun h=>?_) fun h=>?_|refine .id ?_|refine av.eS ah ?_ ?_|exact aJ|simp only [*,go_sem,seval,qn]
 all_goals first
  | omega
  | (rw [a (by assumption)])
  | skip
theorem tv (xs:List aF) (a:xs.length < 2 ^ 30):Sq 135 [] [.sl 4 (xs.map aF.cells)] [] (.sl 4 (xs.map aF.cells)):=by
 refine Spec.frozen (PG xs a) [0] rfl ?_;intro r;rcases r with _ | r<;>rfl
theorem EG (xs:List cq) (hl:xs.length < 2 ^ 30):Sq 136 [] [.sl 4 (xs.map cq.cells)] [.own 4 (xs.map cq.cells)] (.ref 0):=by
 refine bf 8 1 [.tmp 2] mixed func136 ?_;refine s0 ?_;refine dH.v9 aut rfl ah ?_;intro b a;repeat' with_reducible first|apply And.intro|exact .dq|refine aD.bp (by assumption) ?_|refine pq (fun h=>?_) fun h=>?_|refine .id ?_|refine av.eS ah ?_ ?_|exact aJ|simp only [*,go_sem,seval,qn]
 all_goals first
  | omega
  | (rw [a (by assumption)])
  | skip
theorem sK (xs:List cq) (a:xs.length < 2 ^ 30):Sq 136 [] [.sl 4 (xs.map cq.cells)] [] (.sl 4 (xs.map cq.cells)):=by
 refine Spec.frozen (EG xs a) [0] rfl ?_;intro r;rcases r with _ | r<;>rfl
theorem As (xs:List aB) (hl:xs.length < 2 ^ 30):Sq 138 [] [.sl 4 (xs.map aB.cells)] [.own 4 (xs.map aB.cells)] (.ref 0):=by
 refine bf 8 1 [.tmp 2] mixed func138 ?_;refine s0 ?_;refine dH.v9 aki rfl ah ?_;intro b a;repeat' with_reducible first|apply And.intro|exact .dq|refine aD.bp (by assumption) ?_|refine pq (fun h=>?_) fun h=>?_|refine .id ?_|refine av.eS ah ?_ ?_|exact aJ|simp only [*,go_sem,seval,qn]
 all_goals first
  | omega
  | (rw [a (by assumption)])
  | skip
theorem JK (xs:List aB) (a:xs.length < 2 ^ 30):Sq 138 [] [.sl 4 (xs.map aB.cells)] [] (.sl 4 (xs.map aB.cells)):=by
 refine Spec.frozen (As xs a) [0] rfl ?_;intro r;rcases r with _ | r<;>rfl
theorem uY (xs:List bB) (hl:xs.length < 2 ^ 30):Sq 139 [] [.sl 5 (xs.map bB.cells)] [.own 5 (xs.map bB.cells)] (.ref 0):=by
 refine bf 8 1 [.tmp 2] mixed func139 ?_;refine s0 ?_;refine dH.v9 akj rfl ah ?_;intro b a;repeat' with_reducible first|apply And.intro|exact .dq|refine aD.bp (by assumption) ?_|refine pq (fun h=>?_) fun h=>?_|refine .id ?_|refine av.eS ah ?_ ?_|exact aJ|simp only [*,go_sem,seval,qn]
 all_goals first
  | omega
  | (rw [a (by assumption)])
  | skip
theorem Mo (xs:List bB) (a:xs.length < 2 ^ 30):Sq 139 [] [.sl 5 (xs.map bB.cells)] [] (.sl 5 (xs.map bB.cells)):=by
 refine Spec.frozen (uY xs a) [0] rfl ?_;intro r;rcases r with _ | r<;>rfl
theorem Co (xs:List aE) (hl:xs.length < 2 ^ 30):Sq 120 [] [.sl 3 (xs.map aE.cells)] [.own 3 (xs.map aE.cells)] (.ref 0):=by
 refine bf 8 1 [.tmp 2] mixed func120 ?_;refine s0 ?_;refine dH.v9 akk rfl ah ?_;intro b a;repeat' with_reducible first|apply And.intro|exact .dq|refine aD.bp (by assumption) ?_|refine pq (fun h=>?_) fun h=>?_|refine .id ?_|refine av.eS ah ?_ ?_|exact aJ|simp only [*,go_sem,seval,qn]
 all_goals first
  | omega
  | (rw [a (by assumption)])
  | skip
theorem At (xs:List aE) (a:xs.length < 2 ^ 30):Sq 120 [] [.sl 3 (xs.map aE.cells)] [] (.sl 3 (xs.map aE.cells)):=by
 refine Spec.frozen (Co xs a) [0] rfl ?_;intro r;rcases r with _ | r<;>rfl
theorem Mp (xs:List dQ) (hl:xs.length < 2 ^ 30):Sq 200 [] [.sl 8 (xs.map dQ.cells)] [.own 8 (xs.map dQ.cells)] (.ref 0):=by
 refine bf 8 1 [.tmp 2] mixed func200 ?_;refine s0 ?_;refine dH.v9 auu rfl ah ?_;intro b a;repeat' with_reducible first|apply And.intro|exact .dq|refine aD.bp (by assumption) ?_|refine pq (fun h=>?_) fun h=>?_|refine .id ?_|refine av.eS ah ?_ ?_|exact aJ|simp only [*,go_sem,seval,qn]
 all_goals first
  | omega
  | (rw [a (by assumption)])
  | skip
theorem xm (xs:List dQ) (a:xs.length < 2 ^ 30):Sq 200 [] [.sl 8 (xs.map dQ.cells)] [] (.sl 8 (xs.map dQ.cells)):=by
 refine Spec.frozen (Mp xs a) [0] rfl ?_;intro r;rcases r with _ | r<;>rfl
theorem Mq (ps:List fG) (a:ps.length < 2 ^ 30):Sq 137 [] [.sl 3 (pl ps)] [] (.sl 3 (pl ps)):=by
 refine Spec.frozen (AX ps a) [0] rfl ?_;intro r;rcases r with _ | r<;>rfl
theorem vC (x:au):sn 3 x.cells:=⟨rfl,fun d a=>by simp only [au.cells,mem_cons,not_mem_nil,or_false] at a;rcases a with rfl | rfl | rfl<;>simp [go_sem,seval,bG,dZ,D.names],fun d a=>by simp only [au.cells,mem_cons,not_mem_nil,or_false] at a;rcases a with rfl | rfl | rfl<;>rfl⟩
theorem U1:Xw (fun t=>if t=36 then 24 else t) (fun k=>if k=322 then 272 else if k=357 then 313 else if k=358 then 314 else k) 3 24 (au.cells ⟨0,0,0⟩) Tryz.f313 where
 rn:=nC func322 func272
 t0:=bD
 t3:=bD
 t4:=bD
 np:=bD
 pos:=ah
 big:=ah
 sl:=ap8
 zel:=aqk
 zc:=vC _
 o1:=func313
 o2:=bD
 o3:=bD
 o4:=bD
 o5:=bD
 o6:=bD
theorem Kh (xs:List au) (x:au) (i:Nat) (b:xs.length < 2 ^ 30) (a:i<=xs.length):Sq 272 [.own 3 (xs.map au.cells),.own 3 [x.cells]] [.ref 0,.I i,.ref 1] [.undef,.undef,.own 3 ((xs.take i++[x]++xs.drop i).map au.cells)] (.ref 2):=by
 have:=ur U1 (xs.map au.cells) x.cells i (by simpa using b) (by simpa using a) (fun r hr=>by obtain ⟨y,_,rfl⟩:=mem_map.1 hr;exact vC y) (vC x);rw [show (xs.take i++[x]++xs.drop i).map au.cells=(xs.map au.cells).take i++[x.cells]++(xs.map au.cells).drop i by simp];exact this
theorem BS (x:aC):sn 12 x.cells:=⟨rfl,fun d a=>by simp only [aC.cells,mem_cons,not_mem_nil,or_false] at a;rcases a with rfl | rfl | rfl | rfl | rfl | rfl | rfl | rfl | rfl | rfl | rfl | rfl<;>simp [go_sem,seval,bG,dZ,D.names],fun d a=>by simp only [aC.cells,mem_cons,not_mem_nil,or_false] at a;rcases a with rfl | rfl | rfl | rfl | rfl | rfl | rfl | rfl | rfl | rfl | rfl | rfl<;>rfl⟩
theorem abD:Xw (fun t=>if t=36 then 25 else t) (fun k=>if k=322 then 315 else if k=357 then 353 else if k=358 then 354 else k) 12 96 (aC.cells ⟨0,0,0,0,0,0,0,0,0,0,0,0⟩) Tryz.f353 where
 rn:=nC func322 func315
 t0:=bD
 t3:=bD
 t4:=bD
 np:=bD
 pos:=ah
 big:=ah
 sl:=ap9
 zel:=aql
 zc:=BS _
 o1:=func353
 o2:=bD
 o3:=bD
 o4:=bD
 o5:=bD
 o6:=bD
theorem PY (xs:List aC) (x:aC) (i:Nat) (b:xs.length < 2 ^ 30) (a:i<=xs.length):Sq 315 [.own 12 (xs.map aC.cells),.own 12 [x.cells]] [.ref 0,.I i,.ref 1] [.undef,.undef,.own 12 ((xs.take i++[x]++xs.drop i).map aC.cells)] (.ref 2):=by
 have:=ur abD (xs.map aC.cells) x.cells i (by simpa using b) (by simpa using a) (fun r hr=>by obtain ⟨y,_,rfl⟩:=mem_map.1 hr;exact BS y) (BS x);rw [show (xs.take i++[x]++xs.drop i).map aC.cells=(xs.map aC.cells).take i++[x.cells]++(xs.map aC.cells).drop i by simp];exact this
theorem yd (x:ay):sn 4 x.cells:=⟨rfl,fun d a=>by simp only [ay.cells,mem_cons,not_mem_nil,or_false] at a;rcases a with rfl | rfl | rfl | rfl<;>simp [go_sem,seval,bG,dZ,D.names],fun d a=>by simp only [ay.cells,mem_cons,not_mem_nil,or_false] at a;rcases a with rfl | rfl | rfl | rfl<;>rfl⟩
theorem Yj:Xw (fun t=>if t=36 then 26 else t) (fun k=>if k=322 then 316 else if k=357 then 355 else if k=358 then 356 else k) 4 32 (ay.cells ⟨0,0,0,0⟩) Tryz.f355 where
 rn:=nC func322 func316
 t0:=bD
 t3:=bD
 t4:=bD
 np:=bD
 pos:=ah
 big:=ah
 sl:=ap'
 zel:=aqm
 zc:=yd _
 o1:=func355
 o2:=bD
 o3:=bD
 o4:=bD
 o5:=bD
 o6:=bD
theorem MC (xs:List ay) (x:ay) (i:Nat) (b:xs.length < 2 ^ 30) (a:i<=xs.length):Sq 316 [.own 4 (xs.map ay.cells),.own 4 [x.cells]] [.ref 0,.I i,.ref 1] [.undef,.undef,.own 4 ((xs.take i++[x]++xs.drop i).map ay.cells)] (.ref 2):=by
 have:=ur Yj (xs.map ay.cells) x.cells i (by simpa using b) (by simpa using a) (fun r hr=>by obtain ⟨y,_,rfl⟩:=mem_map.1 hr;exact yd y) (yd x);rw [show (xs.take i++[x]++xs.drop i).map ay.cells=(xs.map ay.cells).take i++[x.cells]++(xs.map ay.cells).drop i by simp];exact this
theorem su (x:aB):sn 4 x.cells:=⟨rfl,fun d a=>by simp only [aB.cells,mem_cons,not_mem_nil,or_false] at a;rcases a with rfl | rfl | rfl | rfl<;>simp [go_sem,seval,bG,dZ,D.names],fun d a=>by simp only [aB.cells,mem_cons,not_mem_nil,or_false] at a;rcases a with rfl | rfl | rfl | rfl<;>rfl⟩
theorem abC:Xw (fun t=>if t=36 then 37 else t) (fun k=>if k=322 then 261 else if k=357 then 309 else if k=358 then 310 else k) 4 32 (aB.cells ⟨0,0,0,0⟩) Tryz.f309 where
 rn:=nC func322 func261
 t0:=bD
 t3:=bD
 t4:=bD
 np:=bD
 pos:=ah
 big:=ah
 sl:=aki
 zel:=ahA
 zc:=su _
 o1:=func309
 o2:=bD
 o3:=bD
 o4:=bD
 o5:=bD
 o6:=bD
theorem PX (xs:List aB) (x:aB) (i:Nat) (b:xs.length < 2 ^ 30) (a:i<=xs.length):Sq 261 [.own 4 (xs.map aB.cells),.own 4 [x.cells]] [.ref 0,.I i,.ref 1] [.undef,.undef,.own 4 ((xs.take i++[x]++xs.drop i).map aB.cells)] (.ref 2):=by
 have:=ur abC (xs.map aB.cells) x.cells i (by simpa using b) (by simpa using a) (fun r hr=>by obtain ⟨y,_,rfl⟩:=mem_map.1 hr;exact su y) (su x);rw [show (xs.take i++[x]++xs.drop i).map aB.cells=(xs.map aB.cells).take i++[x.cells]++(xs.map aB.cells).drop i by simp];exact this
structure ant (τ:TypeId->TypeId) (ρ:FuncId->FuncId) (z by_:Nat) (zc:List D):Prop where
 rn:Mi prog τ ρ 321 3
 t0:τ 0=0
 t3:τ 3=3
 t4:τ 4=4
 big:by_<=1024
 sl:dV prog (τ 36)=.slice z by_ true
 zel:eE prog (τ 36)=some zc
 zc:sn z zc
theorem XX {τ:TypeId->TypeId} {ρ:FuncId->FuncId} {z F:Nat} {zc:List D} (H:ant τ ρ z F zc) (R:List (List D)) (i j:Nat) (hl:R.length < 2 ^ 30) (hij:i < j) (G:j<=R.length) (s:∀ r∈R,sn z r) :
  Sq (ρ 321) [.own z R] [.ref 0,.I i,.I j] [.undef,.own z (R.take i++R.drop j)] (.ref 1):=by
 have y:∀ r∈R,r.length=z:=fun r hr=>(s r hr).1;have U:∀ r∈R,∀ d∈r,bG d:=fun r hr=>(s r hr).2.1;have x:∀ r∈R,∀ d∈r,kN d=true:=fun r hr=>(s r hr).2.2;have k:∀ r∈R.take i++R.drop j,sn z r:=fun r hr=>by
  rw [mem_append] at hr;rcases hr with hr | hr
  ·exact s r (mem_of_mem_take hr)
  ·exact s r (mem_of_mem_drop hr)
 obtain ⟨B,M,O⟩:=H.zc;refine Spec.Ql (hr:=[]) (ds:=[.I i,.I j]) (by intro h;rw [h] at G;simp at G;omega) (fun r hr=>(k r hr).1) (fun r hr=>(k r hr).2.1) ?_ (by simp) ?_
 ·intro d P;simp only [mem_cons,not_mem_nil,or_false] at P;rcases P with rfl | rfl<;>simp [D.names]
 intro cap b;left;obtain ⟨N,hN⟩:=aQ (R.length-(j-i));have n:(R.take i++R.drop j).length=N:=by simp;omega
 obtain ⟨E,f⟩:∃ X,X=gD (dR R cap z) (i*z) (R.drop j).flatten:=⟨_,rfl⟩
 obtain ⟨C,g⟩:∃ X,X=gD E (N*z) (replicate (R.length-N) zc).flatten:=⟨_,rfl⟩
 have o:(dR R cap z).length=cap*z:=lB y b;have p:(R.drop j).length=R.length-j:=fj;have u:(R.drop j).flatten.length=(R.length-j)*z:=by rw [jS fun r hr=>y r (mem_of_mem_drop hr),p]
 have K:(replicate (R.length-N) zc).flatten.length=(R.length-N)*z:=sN B _;have Q:i*z+(R.length-j)*z=N*z:=by rw [<- Nat.add_mul];congr 1;omega
 have L:N*z<=cap*z:=l6 z ah;have S:N*z+(R.length-N)*z<=cap*z:=by rw [<- Nat.add_mul];exact l6 z ah
 have a:E.length=cap*z:=by rw [f,fF (by rw [o,u,Q];exact L),o]
 have t:C.length=cap*z:=by rw [g,fF (by rw [a,K];exact S),a]
 have q:∀ d∈C,kN d=true:=by
  rw [g,f];exact nr (nr (uX x) (mX fun r hr=>x r (mem_of_mem_drop hr))) (mX fun r hr=>by rw [(mem_replicate.1 hr).2];exact O)
 refine ⟨C,by rw [n];omega,t,?_,?_⟩
 ·rw [n,g,qX (dU _) (by rw [a];exact L),f];have e:N*z=i*z+(R.drop j).flatten.length:=by rw [u,Q]
  rw [e,nX (by rw [o];exact l6 z ah),oF y ah];simp
 ·rw [n];show Sq (ρ 321) [.box (dR R cap z)] [.bW 0 0 z R.length cap,.I i,.I j] [.box C] (.bW 0 0 z N cap);refine IA 33 3 [.tmp 6] (H.rn) mixed func321 fun v=>?_;simp only [I7,Zp,GF,I8,Zo,toList_toArray,map_cons,map_nil,H.t0,H.t3,H.t4,gp,Bool.not_true,Bool.not_false,Bool.true_or,Bool.false_or,Bool.and_true,fc,cU] at v |-;simp only [go_sem,seval,H.sl,Nat.zero_mul];with_reducible refine dH.ac1 (r:=0) (off:=0) (l:=R.length) (c:=cap) (k1:=.i64) (k2:=.i64) (k3:=.i64) (i:=i) (j:=j) (m:=R.length) H.sl ?_ ?_ ?_ ?_ ?_ ?_ ?_ ?_ ?_ ?_
  iterate 9 (first | rfl | omega)
  simp only [go_sem,seval,H.sl,Nat.zero_mul];have J:((i:Int)==(j:Int))=false:=by simp;omega
  simp only [J,go_sem,seval,H.sl,Nat.zero_mul];refine ⟨eZ.mk (by simp only [v]),vO.mk (by kernel_rfl),by omega,vO.mk (by kernel_rfl),⟨by omega,b⟩,?_⟩;have T:gS (j*z) z (R.length-j) (.box (dR R cap z))=.sl z (R.drop j):=yC y U G b;with_reducible refine dH.aaR (r:=0) (off:=0) (l:=i) (c:=cap) (cs:=dR R cap z) (rows2:=R.drop j) H.sl H.sl ?_ ?_ ?_ ?_ ?_ ?_ ?_
  ·rfl
  ·rfl
  ·show iR z (bS _ (gS (j*z) z (R.length-j) (.box (dR R cap z))))=_;rw [T];simp [bS,iR]
  ·omega
  ·have:=H.big;omega
  ·intro _;have w:i+(R.drop j).length=N:=by rw [p];omega
   refine ⟨?_,?_⟩
   ·rw [lB y b,w,Nat.zero_add];exact L
   ·rw [Nat.zero_add,<- f];simp only [go_sem,seval,H.sl,Nat.zero_mul,w];refine ⟨⟨by omega,by omega⟩,?_⟩;with_reducible refine dH.clear (r:=0) (off:=N*z) (l:=R.length-N) (c:=cap-N) (cs:=E) (zc:=zc) H.sl ?_ ?_ ?_ ?_ ?_ ?_ ?_
    ·rfl
    ·rfl
    ·exact H.zel
    ·exact B
    ·exact M
    ·rw [a];exact S
    ·rw [<- g];refine s0 ?_;exact mY q
  ·intro h;exfalso;rw [p] at h;omega
theorem aa':ant (fun t=>if t=36 then 37 else t) (fun k=>if k=321 then 260 else k) 4 32 (aB.cells ⟨0,0,0,0⟩) where
 rn:=nC func321 func260
 t0:=bD
 t3:=bD
 t4:=bD
 big:=ah
 sl:=aki
 zel:=ahA
 zc:=su _
theorem PJ (xs:List aB) (i:Nat) (a:xs.length < 2 ^ 30) (hi:i < xs.length):Sq 260 [.own 4 (xs.map aB.cells)] [.ref 0,.I i,.I ((i+1:Nat):Int)] [.undef,.own 4 ((xs.take i++xs.drop (i+1)).map aB.cells)] (.ref 1):=by
 have:=XX aa' (xs.map aB.cells) i (i+1) (by simpa using a) ah (by rw [qn];omega) (fun r hr=>by obtain ⟨y,_,rfl⟩:=mem_map.1 hr;exact su y);rw [show (xs.take i++xs.drop (i+1)).map aB.cells=(xs.map aB.cells).take i++(xs.map aB.cells).drop (i+1) by simp];exact this
theorem aoZ {l:bE} {r:az} {ps:List fG} {w c:Int} (h:Qk l r ps w c=0):r.okB=true/\l9 r w c ps=0/\I3 l r ps w c=jo ⟨2,w,c⟩ l.bs+afN r w c ps/\bQ (I3 l r ps w c)=true:=by
 have e:AW l r ps=0:=by
  by_cases b:(AW l r ps != 0)=true
  ·simp only [Qk,b,if_true] at h;exact h
  ·simpa using b
 have a:(AW l r ps != 0)=false:=by simp [e]
 have hr:r.okB=true:=by
  unfold AW at e;split at e
  ·rename_i f;simp only [cU] at f;exact f.1.2
  ·cases e
 have i:l9 r w c ps=0:=by
  by_cases b:(l9 r w c ps != 0)=true
  ·simp only [Qk,a,b,if_true,nJ,if_false] at h;exact h
  ·simpa using b
 have d:(l9 r w c ps != 0)=false:=by simp [i]
 simp only [Qk,a,d,nJ,if_false] at h;have g:right (jo ⟨2,w,c⟩ l.bs :: nY r w c ps)=true/\bQ (aG (jo ⟨2,w,c⟩ l.bs :: nY r w c ps))=true:=by
  unfold nW at h;split at h
  ·rename_i f;split at h
   ·rename_i k;exact ⟨f,k⟩
   ·cases h
  ·cases h
 have j:I3 l r ps w c=aG (jo ⟨2,w,c⟩ l.bs :: nY r w c ps):=by
  simp [I3,a,d,n9,g.1,g.2]
 refine ⟨hr,i,?_,by rw [j];exact g.2⟩;rw [j];simp only [aG,Xl]
def Xf (s:af) (w c:Int):Int:=
 if Qk s.bu s.aj s.ps w c=0 then (if s.book.okB then (if KQ s.aj w c s.book.qs=0 then (if wJ s.aj w c s.book.qs<=I3 s.bu s.aj s.ps w c then 0 else DK (wJ s.aj w c s.book.qs) (I3 s.bu s.aj s.ps w c)) else KQ s.aj w c s.book.qs) else 14) else Qk s.bu s.aj s.ps w c
def TI (s:af) (w c:Int):Int:=
 if Qk s.bu s.aj s.ps w c=0 then (if s.book.okB then (if KQ s.aj w c s.book.qs=0 then (if wJ s.aj w c s.book.qs<=I3 s.bu s.aj s.ps w c then 0 else AB (wJ s.aj w c s.book.qs) (I3 s.bu s.aj s.ps w c)) else 0) else 0) else 0
structure af.fit (s:af):Prop where
 aj:s.aj.small
 book:s.book.small
 bu:s.bu.bs.length < 2 ^ 30
 ps:s.ps.length < 2 ^ 30
theorem LK (s:af) (w c:Int) (z:s.fit):Sq 65 [] [.agg s.cells,.I w,.I c] [] (.bT [.I (TI s w c),.I (Xf s w c)]):=by
 obtain ⟨hr,u,v,y⟩:=z;have p:=ae9 s.bu s.aj s.ps w c v hr y;have r:=gX s.book u;have q:=SF s.aj w c s.book.qs hr u.2;have t:=Qj (wJ s.aj w c s.book.qs) (I3 s.bu s.aj s.ps w c);simp only [bE.cells,az.cells,aI.cells] at p r q;simp only [af.cells,TI,Xf];obtain ⟨l,a⟩:∃ x,x=I3 s.bu s.aj s.ps w c:=⟨_,rfl⟩
 obtain ⟨j,e⟩:∃ x,x=Qk s.bu s.aj s.ps w c:=⟨_,rfl⟩
 obtain ⟨m,b⟩:∃ x,x=wJ s.aj w c s.book.qs:=⟨_,rfl⟩
 obtain ⟨k,f⟩:∃ x,x=KQ s.aj w c s.book.qs:=⟨_,rfl⟩
 rw [<- a,<- e] at p;rw [<- b,<- f] at q;rw [<- b,<- a] at t;rw [<- a,<- e,<- b,<- f];refine bf 53 3 [.tmp 6,.tmp 7] mixed func65 ?_;refine sc aJ p ?_;by_cases h:j=0
 case neg =>
  have n:(j==0)=false:=by simpa using h
  simp only [go_sem,seval,bne,n,ak h]
 have n:(j==0)=true:=by simpa using h
 simp only [go_sem,seval,n,aq h];refine aD.bp r ?_;cases b2:s.book.okB
 ·exact gU
 refine sc aJ q ?_;by_cases d:k=0
 case neg =>
  have g:(k==0)=false:=by simpa using d
  simp only [go_sem,seval,bne,g,ak d]
 have g:(k==0)=true:=by simpa using d
 by_cases i:m<=l
 ·have o:decide (m<=l)=true:=dI i;simp only [go_sem,seval,bne,g,o,aq d,aq i]
 ·have o:decide (m<=l)=false:=eJ i;simp only [go_sem,seval,bne,g,o,aq d,ak i];exact jW aJ t
theorem BG (r:az) (w c:Int) (qs:List aF):bQ (wJ r w c qs)=true:=by
 unfold wJ;split
 ·split
  ·assumption
  ·decide
 ·decide
theorem apF {s:af} {w c:Int} (h:Xf s w c=0):Qk s.bu s.aj s.ps w c=0/\s.book.okB=true/\KQ s.aj w c s.book.qs=0 /\
  TI s w c=max (wJ s.aj w c s.book.qs-I3 s.bu s.aj s.ps w c) 0/\IntKind.wrap .i64 (wJ s.aj w c s.book.qs-I3 s.bu s.aj s.ps w c)=wJ s.aj w c s.book.qs-I3 s.bu s.aj s.ps w c:=by
 by_cases a:Qk s.bu s.aj s.ps w c=0
 case neg=>simp only [Xf,ak a] at h;exact (a h).elim
 cases d:s.book.okB
 case false=>simp only [Xf,aq a,d] at h;cases h
 by_cases b:KQ s.aj w c s.book.qs=0
 case neg=>simp only [Xf,aq a,d,if_true,ak b] at h;exact (b h).elim
 obtain ⟨-,-,-,r1⟩:=aoZ a;have i1:=bI.1 r1;have i2:=bI.1 (BG s.aj w c s.book.qs);simp only [Xf,TI,aq a,d,if_true,aq b] at h |-;refine ⟨a,aJ,b,?_⟩;by_cases e:wJ s.aj w c s.book.qs<=I3 s.bu s.aj s.ps w c
 ·simp only [aq e];exact ⟨by omega,gA ah ah⟩
 ·simp only [ak e,DK,r1,BG] at h;cases f:bQ (wJ s.aj w c s.book.qs-I3 s.bu s.aj s.ps w c)
  ·rw [f] at h;simp at h
  ·have i3:=bI.1 f;simp only [ak e,AB,r1,BG,f];exact ⟨by simp;omega,gA ah ah⟩
theorem ajh {l:bE} (h:l.okB=true):lE l.bs=true/\∀ z∈l.bs,bQ z.sum=true:=by
 simp only [bE.okB,cU] at h;refine ⟨h.1.2,fun z c=>?_⟩;obtain ⟨i,a,rfl⟩:=mem_iff_getElem.1 c;have:=dn.1 h.1.2 i (mem_range.2 a);have b:qG l.bs[i]=true:=by
  rcases Nat.eq_zero_or_pos i with rfl | hp
  ·rwa [rO a] at this
  ·obtain ⟨j,rfl⟩:∃ j,i=j+1:=⟨i-1,by omega⟩
   rw [oS a,cU] at this;exact this.1
 simp only [qG,cU] at b;exact b.2.1
def addN (l:List Int):Int:=if bQ (aG l) then aG l else 0
theorem Ll (x:aP):Sq 35 [] [.agg x.cells] [] (.bool x.right):=by
 simp only [aP.cells];refine bf 40 1 [.tmp 2] mixed func35 ?_;refine s0 ?_;repeat' with_reducible first|apply And.intro|exact .dq|refine aD.bp (by assumption) ?_|refine pq (fun h=>?_) fun h=>?_|refine .id ?_|refine av.eS ah ?_ ?_|exact aJ|simp only [*,go_sem,seval]
 all_goals (try simp only [bL,gM] at *)
 all_goals (unfold aP.right;simp_all [owned];try (intros;omega))
def Ob (a:List Int) (k:Int):Bool:=a.any (· == k)
end Go.Proofs.YtccipdjjkcejgaaGreat
