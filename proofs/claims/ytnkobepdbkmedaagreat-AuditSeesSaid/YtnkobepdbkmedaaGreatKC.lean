/- States, with all their rows, and what follows. No theorem of a claim. -/
import Derived.Test.YtnkobepdbkmedaaGreatKB
import Derived.Test.YtnkobepdbkmedaaGreatAbcOpen
import Derived.Test.YtnkobepdbkmedaaGreatKA
set_option linter.unusedSimpArgs false
set_option linter.unusedVariables false
set_option maxHeartbeats 4000000
set_option maxRecDepth 16000
namespace Go.Proofs.YtnkobepdbkmedaaGreat
open Go.Abs
def eW (n:Int):Prop:=-9223372036854775808<=n/\n<=9223372036854775807
structure aA where
 who:Int
 inst:Int
 aV:Int
 cost:Int
deriving DecidableEq
@[reducible] def aA.cells (x:aA):List D:=[.int .i64 x.who,.int .i64 x.inst,.int .i64 x.aV,.int .i64 x.cost]
def aA.cE (x:aA):Prop:=eW x.who/\eW x.inst/\eW x.aV/\eW x.cost
structure aI where
 no:Int
 fW:Int
 dV:Int
 inst:Int
 aV:Int
 aR:Int
 off:Bool
deriving DecidableEq
@[reducible] def aI.cells (x:aI):List D:=[.int .i64 x.no,.int .i64 x.fW,.int .i64 x.dV,.int .i64 x.inst,.int .i64 x.aV,.int .i64 x.aR,.bool x.off]
def aI.cE (x:aI):Prop:=eW x.no/\eW x.fW/\eW x.dV/\eW x.inst/\eW x.aV/\eW x.aR
structure aN where
 who:Int
 cur:Int
 bW:Int
deriving DecidableEq
@[reducible] def aN.cells (x:aN):List D:=[.int .i64 x.who,.int .i64 x.cur,.int .i64 x.bW]
def aN.cE (x:aN):Prop:=eW x.who/\eW x.cur/\eW x.bW
structure aB where
 who:Int
 cur:Int
 bW:Int
 till:Int
deriving DecidableEq
@[reducible] def aB.cells (x:aB):List D:=[.int .i64 x.who,.int .i64 x.cur,.int .i64 x.bW,.int .i64 x.till]
def aB.cE (x:aB):Prop:=eW x.who/\eW x.cur/\eW x.bW/\eW x.till
structure bu where
 who:Int
 inst:Int
 src:Int
 aV:Int
 aR:Int
deriving DecidableEq
@[reducible] def bu.cells (x:bu):List D:=[.int .i64 x.who,.int .i64 x.inst,.int .i64 x.src,.int .i64 x.aV,.int .i64 x.aR]
def bu.cE (x:bu):Prop:=eW x.who/\eW x.inst/\eW x.src/\eW x.aV/\eW x.aR
structure dM where
 cur:Int
 gM:Int
 c0:Int
 c1:Int
 c2:Int
 c3:Int
 c4:Int
 rest:Int
deriving DecidableEq
@[reducible] def dM.cells (x:dM):List D:=[.int .i64 x.cur,.int .i64 x.gM,.int .i64 x.c0,.int .i64 x.c1,.int .i64 x.c2,.int .i64 x.c3,.int .i64 x.c4,.int .i64 x.rest]
def dM.cE (x:dM):Prop:=eW x.cur/\eW x.gM/\eW x.c0/\eW x.c1/\eW x.c2/\eW x.c3/\eW x.c4/\eW x.rest
def ak.cE (x:ak):Prop:=eW x.no/\eW x.state/\eW x.need
def aq.cE (x:aq):Prop:=eW x.no/\eW x.cur/\eW x.mult/\eW x.add/\eW x.set/\eW x.aR/\eW x.s0/\eW x.s1/\eW x.s2/\eW x.s3/\eW x.s4/\eW x.s5
def av.cE (x:av):Prop:=eW x.a/\eW x.b/\eW x.c/\eW x.d
def bp.cE (x:bp):Prop:=eW x.kind/\eW x.who/\eW x.cur/\eW x.sum
def eO.cE (x:eO):Prop:=eW x.who/\eW x.bG/\eW x.units
structure bk where
 code:Int
 no:Int
 bW:Int
 DW:List aN
 falls:List dM
deriving DecidableEq
@[reducible] def bk.cells (x:bk):List D:=[.int .i64 x.code,.int .i64 x.no,.int .i64 x.bW,.sl 3 (x.DW.map aN.cells),.sl 8 (x.falls.map dM.cells)]
def bk.fits (x:bk):Prop:=24*x.DW.length<=140737488355328/\64*x.falls.length<=140737488355328
def bk.cE (x:bk):Prop:=True/\True/\True/\True/\True/\x.fits
structure bE where
 client:Int
 seq:Int
 r:bk
deriving DecidableEq
@[reducible] def bE.cells (x:bE):List D:=[.int .i64 x.client,.int .i64 x.seq,.int .i64 x.r.code,.int .i64 x.r.no,.int .i64 x.r.bW,.sl 3 (x.r.DW.map aN.cells),.sl 8 (x.r.falls.map dM.cells)]
def bE.cE (x:bE):Prop:=eW x.client/\eW x.seq/\x.r.cE
structure aF where
 next:Int
 ts:List aI
 qs:List aA
@[reducible] def aF.cells (b:aF):List D:=[.int .i64 b.next,.sl 7 (b.ts.map aI.cells),.sl 4 (b.qs.map aA.cells)]
structure af where
 now:Int
 day:Int
 phase:Int
 aj:au
 book:aF
 aU:bq
 ps:List eO
 calls:List aB
 aX:List bu
 aJ:List bE
@[reducible] def af.cells (s:af):List D:=[.int .i64 s.now,.int .i64 s.day,.int .i64 s.phase,.sl 3 (s.aj.ms.map ak.cells),.sl 12 (s.aj.ns.map aq.cells),.sl 4 (s.aj.xs.map av.cells),.int .i64 s.book.next,.sl 7 (s.book.ts.map aI.cells),.sl 4 (s.book.qs.map aA.cells),
 .int .i64 s.aU.last,.sl 4 (s.aU.bs.map bp.cells),.sl 3 (pl s.ps),.sl 4 (s.calls.map aB.cells),.sl 5 (s.aX.map bu.cells),.sl 7 (s.aJ.map bE.cells)]
structure af.cE (s:af):Prop where
 now:eW s.now
 day:eW s.day
 phase:eW s.phase
 ms:∀ x∈s.aj.ms,x.cE
 ns:∀ x∈s.aj.ns,x.cE
 xs:∀ x∈s.aj.xs,x.cE
 next:eW s.book.next
 ts:∀ x∈s.book.ts,x.cE
 qs:∀ x∈s.book.qs,x.cE
 last:eW s.aU.last
 bs:∀ x∈s.aU.bs,x.cE
 ps:∀ x∈s.ps,x.cE
 calls:∀ x∈s.calls,x.cE
 aX:∀ x∈s.aX,x.cE
 aJ:∀ x∈s.aJ,x.cE
def kG {A:Type} (ok:A->Bool) (lt:A->A->Bool) (xs:List A) (i:Nat):Bool:=
 match xs[i]? with
 | none=>true
 | some b=>ok b&&(match i with
  | 0=>true
  | j+1=>match xs[j]? with
   | some q=>lt q b
   | none=>true)
def lZ {A:Type} (ok:A->Bool) (lt:A->A->Bool) (xs:List A):Bool:=(List.range xs.length).all (kG ok lt xs)
section
variable {A:Type} {ok:A->Bool} {lt:A->A->Bool} {xs:List A}
theorem gz (h:0 < xs.length):kG ok lt xs 0=ok xs[0]:=by simp [kG,h]
theorem fQ {j:Nat} (h:j+1 < xs.length):kG ok lt xs (j+1)=(ok xs[j+1]&&lt (xs[j]'(by omega)) xs[j+1]):=by
 have h':j < xs.length:=by omega
 simp [kG,h,h']
theorem rq {i:Nat} (h:i < xs.length) (hn:kG ok lt xs i=false):lZ ok lt xs=false:=by
 cases hc:lZ ok lt xs
 ·rfl
 ·rw [List.all_eq_true.1 hc i (List.mem_range.2 h)] at hn;cases hn
theorem lY (h:∀ i < xs.length,kG ok lt xs i=true):lZ ok lt xs=true:=List.all_eq_true.2 fun i hi=>h i (List.mem_range.1 hi)
theorem QA (h:lZ ok lt xs=true) {i:Nat} (hi:i < xs.length):kG ok lt xs i=true:=List.all_eq_true.1 h i (List.mem_range.2 hi)
theorem FW (h:lZ ok lt xs=true) {i:Nat} (hi:i < xs.length):ok xs[i]=true:=by
 have:=QA h hi;cases i with
 | zero=>rwa [gz hi] at this
 | succ j=>rw [fQ hi,bZ] at this;exact this.1
theorem nj {i:Nat} (hI:∀ j < i,kG ok lt xs j=true) (h0:kG ok lt xs i=true):∀ k < i+1,kG ok lt xs k=true:=fun k hk=>by
 rcases Nat.lt_or_ge k i with h | h
 ·exact hI k h
 ·obtain rfl:k=i:=by omega
  exact h0
end
def oA (w n:Int):Bool:=within w 1 16&&within n 1 8
def Ca (a b c d:Int):Bool:=decide (a < c)||(a==c&&decide (b < d))
theorem oZ (w n:Int):Abs.Spec Tryz.prog 82 [] [.agg [.int .i64 w,.int .i64 n]] [] (.bool (oA w n)):=by
 refine bg 21 1 [.tmp 2] mixed Tryz.func82 ?_;simp only [go_sem,seval]
 repeat' with_reducible first|apply And.intro|exact .dq|refine aa.pure (by assumption) ?_|refine .aM (fun h=>?_) fun h=>?_|refine .aK (fun h=>?_) fun h=>?_|refine .aO (fun h=>?_) fun h=>?_|refine .split (fun h=>?_) fun h=>?_|refine .id ?_|refine ah.next (by omega) ?_ ?_|exact trivial|simp only [*,go_sem,seval]
 all_goals (simp_all [oA,within];try omega)
theorem Gh (a b c d:Int):Abs.Spec Tryz.prog 84 [] [.agg [.int .i64 a,.int .i64 b],.agg [.int .i64 c,.int .i64 d]] [] (.bool (Ca a b c d)):=by
 refine bg 24 2 [.tmp 4] mixed Tryz.func84 ?_;simp only [go_sem,seval]
 repeat' with_reducible first|apply And.intro|exact .dq|refine aa.pure (by assumption) ?_|refine .aM (fun h=>?_) fun h=>?_|refine .aK (fun h=>?_) fun h=>?_|refine .aO (fun h=>?_) fun h=>?_|refine .split (fun h=>?_) fun h=>?_|refine .id ?_|refine ah.next (by omega) ?_ ?_|exact trivial|simp only [*,go_sem,seval]
 all_goals (simp only [Ca];simp_all)
def aI.okB (t:aI):Bool:=within t.aV 1 1048576&&(within t.aR 1 1073741824&&(t.fW != t.dV&&(oA t.fW t.inst&&oA t.dV t.inst)))
theorem AA (t:aI):Abs.Spec Tryz.prog 85 [] [.agg t.cells] [] (.bool t.okB):=by
 have h1:=oZ t.fW t.inst;have h2:=oZ t.dV t.inst;simp only [aI.cells];refine bg 44 1 [.tmp 2] mixed Tryz.func85 ?_;simp only [go_sem,seval]
 repeat' with_reducible first|apply And.intro|exact .dq|refine aa.pure (by assumption) ?_|refine aa.pure (h1) ?_|refine aa.pure (h2) ?_|refine .aM (fun h=>?_) fun h=>?_|refine .aK (fun h=>?_) fun h=>?_|refine .aO (fun h=>?_) fun h=>?_|refine .split (fun h=>?_) fun h=>?_|refine .id ?_|refine ah.next (by omega) ?_ ?_|exact trivial|simp only [*,go_sem,seval]
 all_goals first
  | (simp_all [aI.okB,within,bne];done)
  | (rw [Bool.eq_iff_iff];simp_all [aI.okB,within];omega)
def aA.okB (p:aA):Bool:=oA p.who p.inst&&(within p.aV (-1099511627776) 1099511627776&&(bP p.cost&&!(p.aV==0&&p.cost==0)))
def fO (a b:aA):Bool:=Ca a.who a.inst b.who b.inst
def bR (n:Int) (l:List aA):List Int:=(l.filter (·.inst==n)).map aA.aV
def kn (n:Int) (l:List aA):Bool:=ru (bR n l)==0&&rz (bR n l)==0
def lG (l:List aA):Bool:=(List.range 8).all fun i=>kn ((i:Int)+1) l
theorem vG (n:Int) (l:List aA) {i:Nat} (h:i < l.length):bR n (l.take (i+1))=if l[i].inst==n then bR n (l.take i)++[l[i].aV] else bR n (l.take i):=by
 simp only [bR];rw [List.take_succ_eq_append_getElem h,List.filter_append,List.map_append];cases hb:l[i].inst==n<;>simp [List.filter,hb]
theorem nE (n:Int) (l:List aA):(bR n l).length<=l.length:=by
 simp only [bR,aG];exact List.length_filter_le _ _
theorem KS (l:List aA) (hl:l.length < 2 ^ 30):Abs.Spec Tryz.prog 86 [] [.sl 4 (l.map aA.cells)] [] (.bool (lG l)):=by
 refine bg 41 1 [.tmp 2] mixed Tryz.func86 ?_;simp only [go_sem,seval];refine aC.count 8 [0] [] (fun i=>[(3,.int .i64 ((i:Int)+1))]) (fun i=>[]) (fun i=>∀ j < i,kn ((j:Int)+1) l=true) (by simp) ?_ ?_
 ·simp only [go_sem,seval]<;>simp
 intro c hc hI;rcases Nat.lt_or_ge c 8 with hc' | hc'
 case inr =>
  obtain rfl:c=8:=by omega
  have e:lG l=true:=List.all_eq_true.2 fun j hj=>hI j (List.mem_range.1 hj)
  simp only [go_sem,seval,e]<;>simp
 obtain ⟨n,hn⟩:=aL ((c:Int)+1);have hd:decide (n<=8)=true:=decide_eq_true (by omega);have hw:IntKind.wrap .i64 (n+1)=((c+1:Nat):Int)+1:=by rw [bz (by omega) (by omega)];omega
 rw [<- hn];simp only [go_sem,seval,hd,aG];refine aC.walk (S:=Unit) l.length [0,3,13,14] [240] (fun i _=>[(15,.int .i64 i),(4,.ref 464)]) (fun i _=>[(464,.own 1 (ints (bR n (l.take i))))]) (fun _ _=>True) () trivial ?_ ?_ ?_
 ·simp only [go_sem,seval]<;>simp [bR,ints]
 ·intro i _ hi hdi hwi _;have hm:=aD (c:=aA.cells) l hi;have hs:=vG n l hi;have hlen:=nE n (l.take i);have hlt:(l.take i).length<=l.length:=by simp;omega
  simp only [aA.cells] at hm;simp only [go_sem,seval,hdi,hm];refine ⟨by omega,?_⟩;cases hb:l[i].inst==n
  ·rw [hb] at hs;simp only [fY,if_false] at hs;simp only [go_sem,seval,hwi];refine ah.step () hi trivial ?_;simp only [go_sem,seval,hs]
  ·rw [hb,if_pos rfl] at hs;simp only [go_sem,seval,hwi,ay];refine ⟨by omega,ah.step () hi trivial ?_⟩;simp only [go_sem,seval,hs]<;>simp [ints]
 ·intro _ hdx _;have hlen:=nE n l;have hsum:=Ja (bR n l) (by omega)
  have hbad:kn n l=false->lG l=false:=fun hx=>by
   cases hh:lG l
   ·rfl
   ·have:=List.all_eq_true.1 hh c (List.mem_range.2 hc');rw [<- hn,hx] at this;cases this
  have hgood:kn n l=true->∀ j < c+1,kn ((j:Int)+1) l=true:=fun hx j hj=>by
   rcases Nat.lt_or_ge j c with h | h
   ·exact hI j h
   ·obtain rfl:j=c:=by omega
    rw [<- hn];exact hx
  simp only [go_sem,seval,hdx,List.take_length];refine aa.gen [] [] true (by simp) ?_;simp only [go_sem,seval];refine aY.intro hsum ?_;cases hE:ru (bR n l)==0
  ·simp only [go_sem,seval,bne,hE,hbad (by simp [kn,hE])]
  cases hN:rz (bR n l)==0
  ·simp only [go_sem,seval,bne,hE,hN,hbad (by simp [kn,hE,hN])]
  simp only [go_sem,seval,bne,hE,hN,hw];refine ah.next hc' (hgood (by simp [kn,hE,hN])) ?_
  simp only [go_sem,seval]
def eL (n:Int) (t:aI):Bool:=t.okB&&(!decide (t.no < 1)&&!decide (n < t.no))
def eo (a b:aI):Bool:=decide (a.no < b.no)
def aF.okB (b:aF):Bool:=lZ aA.okB fO b.qs&&(lZ (eL b.next) eo b.ts&&(lG b.qs&&(!decide (128 < (b.ts.length:Int))&&(!decide (b.next < 0)&&!decide (1099511627776 < b.next)))))
def aF.small (b:aF):Prop:=b.ts.length < 2 ^ 30/\b.qs.length < 2 ^ 30
theorem Dp (b:aF) (hl:b.small):Abs.Spec Tryz.prog 37 [] [.agg b.cells] [] (.int .i64 (if b.okB then 0 else 14)):=by
 obtain ⟨hl1,hl2⟩:=hl;have hlev:=KS b.qs (by omega);simp only [aF.cells];refine bg 124 1 [.tmp 2] mixed Tryz.func37 ?_;simp only [go_sem,seval,aG];refine aC.count b.qs.length [1,8,9] [32,160] (fun i=>[(10,.int .i64 i)]) (fun i=>[]) (fun i=>∀ j < i,kG aA.okB fO b.qs j=true) (by simp) ?_ ?_
 ·simp only [go_sem,seval]<;>simp
 ·intro i hi hI;simp only [go_sem,seval];refine bJ.aK (fun h=>?_) (fun h=>?_)
  ·have hi':i < b.qs.length:=by omega
   have hw:IntKind.wrap .i64 ((i:Int)+1)=((i+1:Nat):Int):=by rw [bz (by omega) (by omega)];omega
   have hm:=aD (c:=aA.cells) b.qs hi';have h1:=oZ b.qs[i].who b.qs[i].inst;have h2:Abs.Spec Tryz.prog 83 [] [.sl 1 [[.int .i64 b.qs[i].cost]]] [] (.bool (right [b.qs[i].cost])):=jM [b.qs[i].cost] (by simp);rw [nA] at h2;have e0:=nj (i:=i) hI;have e1:kG aA.okB fO b.qs i=false->b.okB=false:=fun hx=>by simp [aF.okB,rq hi' hx]
   simp only [aA.cells] at hm;rcases Nat.eq_zero_or_pos i with rfl | hpos
   ·have hk:=gz (ok:=aA.okB) (lt:=fO) hi';simp only [aA.okB,within] at hk;clear hlev;simp only [go_sem,seval,hm]
    repeat' with_reducible first|apply And.intro|exact .dq|refine aa.pure (by assumption) ?_|refine aa.pure (h1) ?_|(refine aa.gen [] [] true (by simp) ?_;simp only [go_sem,seval];refine aY.intro h2 ?_)|refine .aM (fun h=>?_) fun h=>?_|refine .aK (fun h=>?_) fun h=>?_|refine .aO (fun h=>?_) fun h=>?_|refine .split (fun h=>?_) fun h=>?_|refine .id ?_|refine ah.next (by omega) ?_ ?_|exact trivial|simp only [*,go_sem,seval]
    all_goals first
     | omega
     | rfl
     | (refine e0 ?_;clear e0 e1;rw [hk];clear hk;simp_all;done)
     | (refine e0 ?_;clear e0 e1;rw [hk];clear hk;simp_all;omega)
     | (rw [e1 ?_]
        ·rfl
        ·clear e0 e1;rw [hk];clear hk;simp_all;done)
     | (rw [e1 ?_]
        ·rfl
        ·clear e0 e1;rw [hk];clear hk;simp_all;omega)
   ·obtain ⟨j,rfl⟩:∃ j,i=j+1:=⟨i-1,by omega⟩
    have hj:j < b.qs.length:=by omega
    have hw1:IntKind.wrap .i64 (((j+1:Nat):Int)-1)=(j:Int):=by rw [bz (by omega) (by omega)];omega
    have hk:=fQ (ok:=aA.okB) (lt:=fO) hi';simp only [aA.okB,within,fO] at hk;have hmj:=aD (c:=aA.cells) b.qs hj;have h4:=Gh b.qs[j].who b.qs[j].inst b.qs[j+1].who b.qs[j+1].inst;simp only [aA.cells] at hmj;clear hlev;simp only [go_sem,seval,hm]
    repeat' with_reducible first|apply And.intro|exact .dq|refine aa.pure (by assumption) ?_|refine aa.pure (h1) ?_|refine aa.pure (h4) ?_|(refine aa.gen [] [] true (by simp) ?_;simp only [go_sem,seval];refine aY.intro h2 ?_)|refine .aM (fun h=>?_) fun h=>?_|refine .aK (fun h=>?_) fun h=>?_|refine .aO (fun h=>?_) fun h=>?_|refine .split (fun h=>?_) fun h=>?_|refine .id ?_|refine ah.next (by omega) ?_ ?_|exact trivial|simp only [*,go_sem,seval,hmj]
    all_goals first
     | omega
     | rfl
     | (refine e0 ?_;clear e0 e1;rw [hk];clear hk;simp_all;done)
     | (refine e0 ?_;clear e0 e1;rw [hk];clear hk;simp_all;omega)
     | (rw [e1 ?_]
        ·rfl
        ·clear e0 e1;rw [hk];clear hk;simp_all;done)
     | (rw [e1 ?_]
        ·rfl
        ·clear e0 e1;rw [hk];clear hk;simp_all;omega)
  ·obtain rfl:i=b.qs.length:=by omega
   have hP:=lY hI;simp only [go_sem,seval,aG];refine aC.count b.ts.length [1,65,66] [32,1072] (fun i=>[(67,.int .i64 i)]) (fun i=>[]) (fun i=>∀ j < i,kG (eL b.next) eo b.ts j=true) (by simp) ?_ ?_
   ·simp only [go_sem,seval]<;>simp
   ·intro i hi hI;simp only [go_sem,seval];refine bJ.aK (fun h=>?_) (fun h=>?_)
    ·have hi':i < b.ts.length:=by omega
     have hw:IntKind.wrap .i64 ((i:Int)+1)=((i+1:Nat):Int):=by rw [bz (by omega) (by omega)];omega
     have hm:=aD (c:=aI.cells) b.ts hi';have h1:=AA b.ts[i];have e0:=nj (i:=i) hI;have e1:kG (eL b.next) eo b.ts i=false->b.okB=false:=fun hx=>by simp [aF.okB,rq hi' hx]
     simp only [aI.cells] at hm h1;rcases Nat.eq_zero_or_pos i with rfl | hpos
     ·have hk:=gz (ok:=eL b.next) (lt:=eo) hi';simp only [eL] at hk;clear hlev hP;simp only [go_sem,seval,hm]
      repeat' with_reducible first|apply And.intro|exact .dq|refine aa.pure (by assumption) ?_|refine aa.pure (h1) ?_|refine .aM (fun h=>?_) fun h=>?_|refine .aK (fun h=>?_) fun h=>?_|refine .aO (fun h=>?_) fun h=>?_|refine .split (fun h=>?_) fun h=>?_|refine .id ?_|refine ah.next (by omega) ?_ ?_|exact trivial|simp only [*,go_sem,seval]
      all_goals first
       | omega
       | rfl
       | (refine e0 ?_;clear e0 e1;rw [hk];clear hk;simp_all;done)
       | (refine e0 ?_;clear e0 e1;rw [hk];clear hk;simp_all;omega)
       | (rw [e1 ?_]
          ·rfl
          ·clear e0 e1;rw [hk];clear hk;simp_all;done)
     ·obtain ⟨j,rfl⟩:∃ j,i=j+1:=⟨i-1,by omega⟩
      have hj:j < b.ts.length:=by omega
      have hw1:IntKind.wrap .i64 (((j+1:Nat):Int)-1)=(j:Int):=by rw [bz (by omega) (by omega)];omega
      have hk:=fQ (ok:=eL b.next) (lt:=eo) hi';simp only [eL,eo] at hk;have hmj:=aD (c:=aI.cells) b.ts hj;simp only [aI.cells] at hmj;clear hlev hP;simp only [go_sem,seval,hm]
      repeat' with_reducible first|apply And.intro|exact .dq|refine aa.pure (by assumption) ?_|refine aa.pure (h1) ?_|refine .aM (fun h=>?_) fun h=>?_|refine .aK (fun h=>?_) fun h=>?_|refine .aO (fun h=>?_) fun h=>?_|refine .split (fun h=>?_) fun h=>?_|refine .id ?_|refine ah.next (by omega) ?_ ?_|exact trivial|simp only [*,go_sem,seval,hmj]
      all_goals first
       | omega
       | rfl
       | (refine e0 ?_;clear e0 e1;rw [hk];clear hk;simp_all;done)
       | (refine e0 ?_;clear e0 e1;rw [hk];clear hk;simp_all;omega)
       | (rw [e1 ?_]
          ·rfl
          ·clear e0 e1;rw [hk];clear hk;simp_all;done)
    ·obtain rfl:i=b.ts.length:=by omega
     have hT:=lY hI;have e:b.okB=(lG b.qs&&(!decide (128 < (b.ts.length:Int))&&(!decide (b.next < 0)&&!decide (1099511627776 < b.next)))):=by simp [aF.okB,hP,hT]
     rw [e];clear e hP hT hI;simp only [go_sem,seval,aG];refine aa.pure hlev ?_;cases b1:lG b.qs
     ·simp only [go_sem,seval,b1]<;>simp
     cases b2:decide (128 < (b.ts.length:Int))
     case true=>simp only [go_sem,seval,aG,b1,b2]<;>simp
     cases b3:decide (b.next < 0)
     case true=>simp only [go_sem,seval,aG,b1,b2,b3]<;>simp
     cases b4:decide (1099511627776 < b.next)<;>simp only [go_sem,seval,aG,b1,b2,b3,b4]<;>simp
theorem aav {x:Int} (h:0<=x) (h':x < 18446744073709551616):R7 .u64 x=18446744073709551615-x:=by
 have:=afb x.toNat (by omega);rw [Int.toNat_of_nonneg h] at this;rw [this];omega
theorem aam (a:Int) (h:eW a):Abs.Spec Tryz.prog 209 [] [.int .i64 a] [] (.int .u64 (a.natAbs:Nat)):=by
 obtain ⟨h1,h2⟩:=h;refine bg 10 1 [.tmp 2] mixed Tryz.func209 ?_;rcases Int.lt_or_le a 0 with hn | hn
 ·have d:decide (a < 0)=true:=decide_eq_true hn;have e:IntKind.wrap .u64 (0-IntKind.wrap .u64 a)=(a.natAbs:Nat):=by rw [IntKind.wrap_u64,IntKind.wrap_u64];omega
  simp only [go_sem,seval,d,e]
 ·have d:decide (a < 0)=false:=decide_eq_false (by omega);have e:IntKind.wrap .u64 a=(a.natAbs:Nat):=by rw [IntKind.wrap_u64];omega
  simp only [go_sem,seval,d,e]
theorem Wc (W:Int):(18446744073709551615-W%18446744073709551616+1+0)%18446744073709551616=(-W)%18446744073709551616:=by omega
theorem Vi (W:Int) (h:-85070591730234615865843651857942052864<=W/\W<=85070591730234615865843651857942052864) :
  IntKind.wrap .i64 ((18446744073709551615-(W / 18446744073709551616)%18446744073709551616+0+(18446744073709551615-W%18446744073709551616+1+0) / 18446744073709551616)%18446744073709551616)=(-W) / 18446744073709551616:=by
 obtain ⟨q,hq⟩:=aL (W / 18446744073709551616);obtain ⟨l,hl⟩:=aL (W%18446744073709551616);obtain ⟨c,hc⟩:=aL ((18446744073709551615-l+1+0) / 18446744073709551616);have h1:(-W) / 18446744073709551616 = -q-1+c:=by omega
 have h2:-4611686018427387904<=q/\q<=4611686018427387904:=by omega
 have h3:0<=c/\c<=1:=by omega
 rw [<- hq,<- hl,<- hc,h1,IntKind.wrap_i64];clear hq hl hc h1 h;obtain ⟨x,hx⟩:=aL ((18446744073709551615-q%18446744073709551616+0+c)%18446744073709551616);rw [<- hx];rcases Int.lt_or_le x 9223372036854775808 with h | h<;>omega
theorem aaK (W:Int) (h:-85070591730234615865843651857942052864<=W/\W<=85070591730234615865843651857942052864):Abs.Spec Tryz.prog 210 [] [.agg (wd W)] [] (.agg (wd (-W))):=by
 have hn1:=aav (x:=W%18446744073709551616) (by omega) (by omega);have hu:IntKind.wrap .u64 (W / 18446744073709551616)=(W / 18446744073709551616)%18446744073709551616:=IntKind.wrap_u64 _;have hn2:=aav (x:=(W / 18446744073709551616)%18446744073709551616) (by omega) (by omega);have e1:=Wc W;have e2:=Vi W h;simp only [wd];refine bg 27 1 [.cell 2 128] mixed Tryz.func210 ?_;simp only [go_sem,seval,hn1];refine aa.sem rfl ?_
 with_reducible refine kW.sC (k:=156) (fn:=Tryz.f156) (i:=18446744073709551615-W%18446744073709551616) (j:=1) (m:=0) ?_ Tryz.func156 ?_ ?_ iO iH ?_ ?_ ?_ ?_ ?_ ?_ ?_ ?_ ?_
 iterate 11 (first | rfl | omega)
 simp only [go_sem,seval,hu,hn2];refine aa.sem rfl ?_
 with_reducible refine kW.sC (k:=156) (fn:=Tryz.f156) (i:=18446744073709551615-(W / 18446744073709551616)%18446744073709551616) (j:=0) (m:=(18446744073709551615-W%18446744073709551616+1+0) / 18446744073709551616) ?_ Tryz.func156 ?_ ?_ iO iH ?_ ?_ ?_ ?_ ?_ ?_ ?_ ?_ ?_
 iterate 11 (first | rfl | omega)
 simp only [go_sem,seval,e1,e2]
theorem Ac (a b:Int):((a.natAbs*b.natAbs:Nat):Int)=if (decide (a < 0) != decide (b < 0))=true then -(a*b) else a*b:=by
 rw [Int.natCast_mul];rcases Int.lt_or_le a 0 with ha | ha<;>rcases Int.lt_or_le b 0 with hb | hb
 ·have e1:(a.natAbs:Int) = -a:=by omega
  have e2:(b.natAbs:Int) = -b:=by omega
  have d1:decide (a < 0)=true:=decide_eq_true ha;have d2:decide (b < 0)=true:=decide_eq_true hb;rw [e1,e2,d1,d2,Int.neg_mul_neg];rfl
 ·have e1:(a.natAbs:Int) = -a:=by omega
  have e2:(b.natAbs:Int)=b:=by omega
  have d1:decide (a < 0)=true:=decide_eq_true ha;have d2:decide (b < 0)=false:=decide_eq_false (by omega);rw [e1,e2,d1,d2,Int.neg_mul];rfl
 ·have e1:(a.natAbs:Int)=a:=by omega
  have e2:(b.natAbs:Int) = -b:=by omega
  have d1:decide (a < 0)=false:=decide_eq_false (by omega);have d2:decide (b < 0)=true:=decide_eq_true hb;rw [e1,e2,d1,d2,Int.mul_neg];rfl
 ·have e1:(a.natAbs:Int)=a:=by omega
  have e2:(b.natAbs:Int)=b:=by omega
  have d1:decide (a < 0)=false:=decide_eq_false (by omega);have d2:decide (b < 0)=false:=decide_eq_false (by omega);rw [e1,e2,d1,d2];rfl
theorem lP (a b:Int) (ha:eW a) (hb:eW b):Abs.Spec Tryz.prog 173 [] [.int .i64 a,.int .i64 b] [] (.agg (wd (a*b))):=by
 have h1:=aam a ha;have h2:=aam b hb;obtain ⟨ha1,ha2⟩:=ha;obtain ⟨hb1,hb2⟩:=hb;have h3:=vJ a.natAbs b.natAbs (by omega) (by omega);obtain ⟨P,hP⟩:=aL (a.natAbs*b.natAbs)
 have hPb:P<=85070591730234615865843651857942052864:=by
  have:a.natAbs*b.natAbs<=9223372036854775808*9223372036854775808:=Nat.mul_le_mul (by omega) (by omega);omega
 have hPc:=Ac a b;rw [<- hP] at h3 hPc;have hw:IntKind.wrap .i64 ((P / 18446744073709551616:Nat):Int)=(P:Int) / 18446744073709551616:=by rw [IntKind.wrap_i64];omega
 have hl:((P%18446744073709551616:Nat):Int)=(P:Int)%18446744073709551616:=by omega
 have hneg:=aaK (P:Int) (by omega);simp only [wd] at hneg |-;refine bg 28 2 [.cell 4 128] mixed Tryz.func173 ?_;simp only [go_sem,seval];refine aa.pure h1 ?_;simp only [go_sem,seval];refine aa.pure h2 ?_;simp only [go_sem,seval];refine aa.pure h3 ?_;cases hd:(decide (a < 0)==decide (b < 0))
 ·rw [bne,hd,if_pos (by rfl)] at hPc;have hPn:a*b = -(P:Int):=by omega
  simp only [go_sem,seval,hw,hl,hd];refine aa.pure hneg ?_;simp only [go_sem,seval,hPn]
 ·rw [bne,hd,if_neg (by simp)] at hPc;simp only [go_sem,seval,hw,hl,hd,hPc]
def aq.zero:aq:=⟨0,0,0,0,0,0,0,0,0,0,0,0⟩
theorem Ec (xs:List aq) (n:Int) (hl:xs.length < 2 ^ 62):Abs.Spec Tryz.prog 161 [] [.sl 12 (xs.map aq.cells),.fn 77 [],.int .i64 n] [] (.bI [.agg (eP aq.no n aq.zero xs).cells,.int .i64 (fT aq.no n xs)]):=by
 refine bg 27 3 [.cell 6 82,.tmp 7] mixed Tryz.func161 ?_;simp only [go_sem,seval,aG];refine aC.count xs.length [1,2,6,11,12] [112,208] (fun i=>[(13,.int .i64 i)]) (fun i=>[]) (fun i=>∀ j (hj:j < xs.length),j < i->xs[j].no≠n) (by simp) ?_ ?_
 ·simp only [go_sem,seval]<;>simp
 ·intro i hi hI;simp only [go_sem,seval];refine bJ.aK (fun h=>?_) (fun h=>?_)
  ·have hi':i < xs.length:=by omega
   have hw:IntKind.wrap .i64 ((i:Int)+1)=((i+1:Nat):Int):=by rw [bz (by omega) (by omega)];omega
   have hm:=aD (c:=aq.cells) xs hi';have hno:=sR xs[i];simp only [aq.cells] at hm hno |-;simp only [go_sem,seval,hm];refine ⟨by omega,aa.pure hno ?_⟩;simp only [go_sem,seval];refine bJ.split (fun hb=>?_) (fun hb=>?_)
   ·have hb:xs[i].no=n:=by simpa using hb
    obtain ⟨g1,g2⟩:=gW (z:=aq.zero) hi' hI hb;rw [g1,g2];simp only [go_sem,seval]
   ·have hb:xs[i].no≠n:=by simpa using hb
    simp only [go_sem,seval,hw];refine ah.next hi' ?_ ?_
    ·intro j hj hji;rcases Nat.lt_or_ge j i with h | h
     ·exact hI j hj h
     ·obtain rfl:j=i:=by omega
      exact hb
    ·simp only [go_sem,seval]
  ·obtain rfl:i=xs.length:=by omega
   obtain ⟨g1,g2⟩:=fR (z:=aq.zero) (fun j hj=>hI j hj hj);rw [g1,g2];simp only [go_sem,seval,aq.cells,aq.zero]
def aT (r:au) (n:Int):aq:=eP aq.no n aq.zero r.ns
def bf (r:au) (n:Int):Bool:=decide (0<=fT aq.no n r.ns)
theorem DD (r:au) (n:Int) (hl:r.small):Abs.Spec Tryz.prog 100 [] [.agg r.cells,.int .i64 n] [] (.bI [.agg (aT r n).cells,.bool (bf r n)]):=by
 have h:=Ec r.ns n (by have:=hl.2.1;omega);obtain ⟨g,hg⟩:=aL (eP aq.no n aq.zero r.ns);simp only [aT,bf];rw [<- hg] at h |-;simp only [aq.cells] at h |-;simp only [au.cells];refine bg 18 2 [.cell 4 82,.tmp 5] mixed Tryz.func100 ?_;simp only [go_sem,seval];refine aa.pure h ?_;simp only [go_sem,seval]
structure gH where
 i:aq
 q:Int
@[reducible] def gH.cells (x:gH):List D:=[.int .i64 x.i.no,.int .i64 x.i.cur,.int .i64 x.i.mult,.int .i64 x.i.add,.int .i64 x.i.set,.int .i64 x.i.aR,.int .i64 x.i.s0,.int .i64 x.i.s1,.int .i64 x.i.s2,.int .i64 x.i.s3,.int .i64 x.i.s4,.int .i64 x.i.s5,.int .i64 x.q]
def FH (r:au) (w c:Int) (p:aA):Bool:=bf r p.inst&&(p.who==w&&(aT r p.inst).cur==c)
def mW (r:au) (w c:Int) (qs:List aA):List gH:=(qs.filter (FH r w c)).map fun p=>⟨aT r p.inst,p.aV⟩
def xE (p:aA):Bool:=!decide (p.aV < -1099511627776)&&!decide (1099511627776 < p.aV)
def Pf (r:au) (qs:List aA):Int:=if r.okB then (if qs.all xE then 0 else 3) else 14
theorem I1 (r:au) (w c:Int) (l:List aA) {i:Nat} (h:i < l.length):mW r w c (l.take (i+1))=if FH r w c l[i] then mW r w c (l.take i)++[⟨aT r l[i].inst,l[i].aV⟩] else mW r w c (l.take i):=by
 simp only [mW];rw [List.take_succ_eq_append_getElem h,List.filter_append,List.map_append];cases hb:FH r w c l[i]<;>simp [List.filter,hb]
theorem AO (r:au) (w c:Int) (l:List aA):(mW r w c l).length<=l.length:=by
 simp only [mW,aG];exact List.length_filter_le _ _
def rL (j:Nat) (p:gH):Int:=-p.q*p.i.mult*p.i.sh j
def kZ (l:List gH) (j:Nat):Int:=az (l.map (rL j))
def JI (p:gH):Int:=max p.q (-p.q)*p.i.add
def AE (p:gH):Prop:=p.i.ok=true /\ -1099511627776<=p.q/\p.q<=1099511627776
theorem B1 {x:aq} (h:x.ok=true) (j:Nat):-1073741824<=x.sh j/\x.sh j<=1073741824:=by
 simp only [aq.ok,bZ] at h;have hs:=h.1.1.1.1.1.1;simp only [aq.HG,List.all_eq_true,List.mem_range,within,bZ,decide_eq_true_eq] at hs;rcases Nat.lt_or_ge j 6 with hj | hj
 ·exact hs j hj
 ·have e:x.sh j=x.sh 5:=by
   rcases j with _ | _ | _ | _ | _ | _ | j<;>first | omega | rfl
  rw [e];exact hs 5 (by omega)
theorem oa {x:aq} (h:x.ok=true):(1<=x.mult/\x.mult<=1024)/\(0<=x.add/\x.add<=1073741824):=by
 simp only [aq.ok,within,bZ,decide_eq_true_eq] at h;omega
theorem eT {a b A B:Int} (ha:-A<=a/\a<=A) (hb:-B<=b/\b<=B):-(A*B)<=a*b/\a*b<=A*B:=by
 have hA:0<=A:=by omega
 have hB:0<=B:=by omega
 have h:a.natAbs*b.natAbs<=A.natAbs*B.natAbs:=Nat.mul_le_mul (by omega) (by omega);have h1:(a*b).natAbs=a.natAbs*b.natAbs:=Int.natAbs_mul a b;have h2:(A*B).natAbs=A.natAbs*B.natAbs:=Int.natAbs_mul A B;have h3:0<=A*B:=Int.mul_nonneg hA hB;omega
theorem J4 {p:gH} (h:AE p) (j:Nat):(-1125899906842624 <= -p.q*p.i.mult /\ -p.q*p.i.mult<=1125899906842624) /\ -1208925819614629174706176<=rL j p/\rL j p<=1208925819614629174706176:=by
 obtain ⟨h1,h2,h3⟩:=h;obtain ⟨⟨m1,m2⟩,-⟩:=oa h1;have s:=B1 h1 j;have r1:=eT (a:=-p.q) (b:=p.i.mult) (A:=1099511627776) (B:=1024) (by omega) (by omega);have r1:-1125899906842624 <= -p.q*p.i.mult /\ -p.q*p.i.mult<=1125899906842624:=r1;have r2:=eT (a:=-p.q*p.i.mult) (b:=p.i.sh j) (A:=1125899906842624) (B:=1073741824) r1 s;exact ⟨r1,r2⟩
theorem LK {p:gH} (h:AE p):-1208925819614629174706176<=JI p/\JI p<=1208925819614629174706176:=by
 obtain ⟨h1,h2,h3⟩:=h;obtain ⟨-,m1,m2⟩:=oa h1;have r1:=eT (a:=max p.q (-p.q)) (b:=p.i.add) (A:=1099511627776) (B:=1099511627776) (by omega) (by omega);exact r1
theorem vL {l:List Int} {B:Int} (h:∀ n∈l,-B<=n/\n<=B):-(B*l.length)<=az l/\az l<=B*l.length:=by
 induction l with
 | nil=>simp [az]
 | cons x r ih =>
  have h1:=h x (by simp);have h2:=ih fun n hn=>h n (by simp [hn])
  have e:B*((x :: r).length:Int)=B*(r.length:Int)+B:=by
   have:(((x :: r).length:Nat):Int)=(r.length:Int)+1:=by simp
   rw [this,Int.mul_add,Int.mul_one]
  rw [e];simp only [az];omega
theorem sP {B x:Int} (h:-B<=x/\x<=B) (hB:B<=85070591730234615865843651857942052864):pg x=true:=by
 simp only [pg,bZ,decide_eq_true_eq];omega
theorem SQ {l:List gH} (h:∀ p∈l,AE p) (j:Nat) (hl:l.length < 2 ^ 30):(∀ n∈l.map (rL j),pg n=true)/\pg (kZ l j)=true:=by
 have h1:∀ n∈l.map (rL j),-1208925819614629174706176<=n/\n<=1208925819614629174706176:=by
  intro n hn;obtain ⟨p,hp,rfl⟩:=List.mem_map.1 hn;exact (J4 (h p hp) j).2
 refine ⟨fun n hn=>sP (h1 n hn) (by omega),?_⟩;have h2:=vL (B:=1208925819614629174706176) h1;simp only [aG] at h2;refine sP (B:=1208925819614629174706176*(l.length:Int)) h2 (by omega)
def je (l:List gH) (i:Nat) (j:Nat):D:=.int .i64 (if j < i then kZ l j else 0)
def fM (l:List gH) (i:Nat):List D:=[je l i 0,je l i 1,je l i 2,je l i 3,je l i 4,je l i 5]
theorem JC (l:List gH) {i:Nat} (h:i < 6):kI (fM l i) (i*1) [.int .i64 (kZ l i)]=fM l (i+1):=by
 rcases i with _ | _ | _ | _ | _ | _ | i<;>first | omega | simp [fM,je,kI]
theorem qJ (l:List gH):fM l 0=[.int .i64 0,.int .i64 0,.int .i64 0,.int .i64 0,.int .i64 0,.int .i64 0]:=by simp [fM,je]
def l8 (l:List gH):Bool:=(List.range 6).any fun j=>!bP (kZ l j)
def uw (r:au) (w c:Int) (qs:List aA):Int:=if Pf r qs=0 then (if l8 (mW r w c qs) then 1 else 0) else Pf r qs
def DP (r:au) (w c:Int) (qs:List aA):List D:=if uw r w c qs=0 then fM (mW r w c qs) 6 else fM [] 0
theorem HK {A:Type} {no:A->Int} {n:Int} {z:A}:∀ {xs:List A},0<=fT no n xs->eP no n z xs∈xs/\no (eP no n z xs)=n
 | [],h=>by simp [fT] at h
 | x :: r,h=>by
  simp only [fT] at h;simp only [eP];split at h
  ·rename_i h1;rw [if_pos h1];exact ⟨by simp,h1⟩
  ·rename_i h1;rw [if_neg h1];split at h
   ·omega
   ·have:=HK (no:=no) (n:=n) (z:=z) (xs:=r) (by omega);exact ⟨List.mem_cons_of_mem _ this.1,this.2⟩
theorem qy {A:Type} {no:A->Int} {ok:A->Bool} {xs:List A} (h:iN no ok xs=true):∀ x∈xs,ok x=true:=by
 intro x hx;obtain ⟨i,hi,rfl⟩:=List.mem_iff_getElem.1 hx;have:=List.all_eq_true.1 h i (List.mem_range.2 hi);rcases Nat.eq_zero_or_pos i with rfl | hp
 ·rwa [fX no ok xs hi (by omega)] at this
 ·rw [fU no ok xs hi hp,bZ] at this;exact this.1
theorem ue {r:au} (h:r.okB=true) {n:Int} (hi:bf r n=true):(aT r n).ok=true:=by
 simp only [au.okB,bZ] at h;exact qy h.1.2 _ (HK (by simpa [bf] using hi)).1
theorem I9 {r:au} {w c:Int} {qs:List aA} (h:Pf r qs=0):∀ p∈mW r w c qs,AE p:=by
 have hk:r.okB=true/\qs.all xE=true:=by
  unfold Pf at h;split at h
  ·rename_i h1;split at h
   ·rename_i h2;exact ⟨h1,h2⟩
   ·cases h
  ·cases h
 intro p hp;simp only [mW,List.mem_map,List.mem_filter] at hp;obtain ⟨x,⟨hx,hh⟩,rfl⟩:=hp;have hq:=List.all_eq_true.1 hk.2 x hx;simp only [xE,bZ,Bool.not_eq_true',decide_eq_false_iff_not] at hq;refine ⟨?_,by simp only;omega,by simp only;omega⟩;simp only [FH,bZ] at hh;exact ue hk.1 hh.1
theorem abD (p:gH) {i:Nat} (h:i < 6):(List.drop (6+i*1) p.cells).headD .undef=.int .i64 (p.i.sh i):=by
 rcases i with _ | _ | _ | _ | _ | _ | i<;>first | rfl | omega
def uC (f:Nat->Int):Nat->Int
 | 0=>0
 | i+1=>max (uC f i) (f i)
theorem IB {f:Nat->Int} (n:Nat) (h:∀ j < n,bP (f j)=true):0<=uC f n/\uC f n<=4611686018427387904:=by
 induction n with
 | zero=>simp [uC]
 | succ n ih =>
  have h1:=ih fun j hj=>h j (by omega)
  have h2:=cm.1 (h n (by omega));simp only [uC];omega
def IV (l:List gH):Int:=az (uC (kZ l) 6 :: l.map JI)
def AV (r:au) (w c:Int) (qs:List aA):Int:=if uw r w c qs=0 then (if bP (IV (mW r w c qs)) then 0 else 1) else uw r w c qs
def zE (r:au) (w c:Int) (qs:List aA):Int:=if uw r w c qs=0 then (if bP (IV (mW r w c qs)) then IV (mW r w c qs) else 0) else 0
theorem Ro (f:Nat->Int) {i:Nat} (h:i < 6):(List.drop (i*1) [D.int .i64 (f 0),D.int .i64 (f 1),D.int .i64 (f 2),D.int .i64 (f 3),D.int .i64 (f 4),D.int .i64 (f 5)]).headD .undef=.int .i64 (f i):=by
 rcases i with _ | _ | _ | _ | _ | _ | i<;>first | rfl | omega
theorem Of {r:au} {w c:Int} {qs:List aA} (h:uw r w c qs=0):Pf r qs=0/\l8 (mW r w c qs)=false:=by
 unfold uw at h;split at h
 ·rename_i h1;refine ⟨h1,?_⟩;cases hb:l8 (mW r w c qs)
  ·rfl
  ·rw [hb] at h;cases h
 ·rename_i h1;exact (h1 h).elim
theorem Lx {l:List gH} (h:l8 l=false):∀ j < 6,bP (kZ l j)=true:=by
 intro j hj;simp only [l8,List.any_eq_false,List.mem_range] at h;simpa using h j hj
theorem sL (x:ak):Abs.Spec Tryz.prog 114 [] [.agg x.cells] [] (.bool x.ok):=by
 have h1:=fE x.no;have h2:=bn x.state 1 3;have h3:=bn x.need 0 4611686018427387904;simp only [ak.cells];refine bg 16 1 [.tmp 2] mixed Tryz.func114 ?_;simp only [go_sem,seval]
 repeat' with_reducible first|apply And.intro|exact .dq|refine aa.pure (by assumption) ?_|refine aa.pure (h1) ?_|refine aa.pure (h2) ?_|refine aa.pure (h3) ?_|refine .aM (fun h=>?_) fun h=>?_|refine .aK (fun h=>?_) fun h=>?_|refine .aO (fun h=>?_) fun h=>?_|refine .split (fun h=>?_) fun h=>?_|refine .id ?_|refine ah.next (by omega) ?_ ?_|exact trivial|simp only [*,go_sem,seval]
 all_goals first
  | (simp_all [ak.ok];done)
  | (rw [Bool.eq_iff_iff];simp_all [ak.ok,within,bP];omega)
theorem rN (x:aq):Abs.Spec Tryz.prog 116 [] [.agg x.cells] [] (.bool x.ok):=by
 have h1:=bn x.no 1 8;have h2:=fB x.cur;have h3:=bn x.mult 1 1024;have h4:=bn x.add 0 1073741824;have h5:=bn x.set 0 1073741824;have h6:=bn x.aR 0 1073741824;simp only [aq.cells];refine bg 42 1 [.tmp 2] mixed Tryz.func116 ?_;simp only [go_sem,seval];refine aC.walk (S:=Unit) 6 [1] [32] (fun i _=>[(3,.int .i64 i)]) (fun i _=>[]) (fun i _=>∀ j < i,within (x.sh j) (-1073741824) 1073741824=true) () (by intros;omega) ?_ ?_ ?_
 ·simp only [go_sem,seval]<;>simp
 ·intro i _ hi hdi hw hI;have hdi:decide ((i:Int) < 6)=true:=hdi;have hix:=Ro x.sh hi;have e6:[D.int .i64 (x.sh 0),D.int .i64 (x.sh 1),D.int .i64 (x.sh 2),D.int .i64 (x.sh 3),D.int .i64 (x.sh 4),D.int .i64 (x.sh 5)]=[D.int .i64 x.s0,D.int .i64 x.s1,D.int .i64 x.s2,D.int .i64 x.s3,D.int .i64 x.s4,D.int .i64 x.s5]:=rfl;rw [e6] at hix
  have hix2:(List.drop (6+i*1) x.cells).headD .undef=.int .i64 (x.sh i):=by
   rcases i with _ | _ | _ | _ | _ | _ | i<;>first | rfl | omega
  simp only [aq.cells] at hix2;have hv:=bn (x.sh i) (-1073741824) 1073741824;simp only [go_sem,seval,hdi,hix,hix2];(with_reducible and_intros)<;>first|exact .dq|omega|skip
  refine aa.pure hv ?_;cases hb:within (x.sh i) (-1073741824) 1073741824
  ·have e1:x.HG=false:=by
    cases hc:x.HG
    ·rfl
    ·rw [aq.HG,List.all_eq_true] at hc;rw [hc i (List.mem_range.2 hi)] at hb;cases hb
   have e2:x.ok=false:=by simp [aq.ok,e1]
   simp only [go_sem,seval,e2]
  ·simp only [go_sem,seval,hw];refine ah.step () hi ?_ ?_
   ·intro j hj;rcases Nat.lt_or_ge j i with h | h
    ·exact hI j h
    ·obtain rfl:j=i:=by omega
     exact hb
   ·simp only [go_sem,seval]
 ·intro _ hdx hI;have hdx:decide ((6:Int) < 6)=false:=hdx;have hs:x.HG=true:=List.all_eq_true.2 fun j hj=>hI j (List.mem_range.1 hj)
  have e:x.ok=(within x.no 1 8&&within x.cur 0 2&&within x.mult 1 1024&&within x.add 0 1073741824&&within x.set 0 1073741824&&within x.aR 0 1073741824):=by simp [aq.ok,hs]
  rw [e];clear hI e hs
  repeat' with_reducible first|apply And.intro|exact .dq|refine aa.pure (by assumption) ?_|refine aa.pure (h1) ?_|refine aa.pure (h2) ?_|refine aa.pure (h3) ?_|refine aa.pure (h4) ?_|refine aa.pure (h5) ?_|refine aa.pure (h6) ?_|refine .aM (fun h=>?_) fun h=>?_|refine .aK (fun h=>?_) fun h=>?_|refine .aO (fun h=>?_) fun h=>?_|refine .split (fun h=>?_) fun h=>?_|refine .id ?_|refine ah.next (by omega) ?_ ?_|exact trivial|simp only [*,go_sem,seval]
  all_goals (simp_all;done)
section
variable {A:Type} {no:A->Int} {ok:A->Bool} {xs:List A}
theorem Bv {i:Nat} (h:i < xs.length) (hn:cw no ok xs i=false):iN no ok xs=false:=by
 cases hc:iN no ok xs
 ·rfl
 ·rw [List.all_eq_true.1 hc i (List.mem_range.2 h)] at hn;cases hn
theorem uc (h:∀ i < xs.length,cw no ok xs i=true):iN no ok xs=true:=List.all_eq_true.2 fun i hi=>h i (List.mem_range.1 hi)
theorem u9 {i:Nat} (hI:∀ j < i,cw no ok xs j=true) (h0:cw no ok xs i=true):∀ k < i+1,cw no ok xs k=true:=fun k hk=>by
 rcases Nat.lt_or_ge k i with h | h
 ·exact hI k h
 ·obtain rfl:k=i:=by omega
  exact h0
end
theorem dK (r:au) (hl:r.small):Abs.Spec Tryz.prog 113 [] [.agg r.cells] [] (.bool r.okB):=by
 obtain ⟨l1,l2,l3⟩:=hl;simp only [au.cells];refine bg 108 1 [.tmp 2] mixed Tryz.func113 ?_;simp only [go_sem,seval,aG];refine aC.count r.ms.length [1] [32] (fun i=>[(3,.int .i64 i)]) (fun i=>[]) (fun i=>∀ j < i,cw ak.no ak.ok r.ms j=true) (by simp) ?_ ?_
 ·simp only [go_sem,seval]<;>simp
 intro i hi hI;simp only [go_sem,seval,aG];refine bJ.aK (fun h=>?_) (fun h=>?_)
 ·have hi':i < r.ms.length:=by omega
  have hw:IntKind.wrap .i64 ((i:Int)+1)=((i+1:Nat):Int):=by rw [bz (by omega) (by omega)];omega
  have hm:=aD (c:=ak.cells) r.ms hi';have h1:=sL r.ms[i];have e0:=u9 (i:=i) hI;have e1:cw ak.no ak.ok r.ms i=false->r.okB=false:=fun hx=>by simp [au.okB,Bv hi' hx]
  have hlt:(i:Int) < (r.ms.length:Int):=by omega
  simp only [ak.cells] at hm h1;rcases Nat.eq_zero_or_pos i with rfl | hpos
  ·have hk:=fX ak.no ak.ok r.ms hi' (by omega);simp only [go_sem,seval,hm,aG]
   repeat' with_reducible first|apply And.intro|exact .dq|refine aa.pure (by assumption) ?_|refine aa.pure (h1) ?_|refine .aM (fun h=>?_) fun h=>?_|refine .aK (fun h=>?_) fun h=>?_|refine .aO (fun h=>?_) fun h=>?_|refine .split (fun h=>?_) fun h=>?_|refine .id ?_|refine ah.next (by omega) ?_ ?_|exact trivial|simp only [*,go_sem,seval]
   all_goals first
    | omega
    | rfl
    | (refine e0 ?_;clear e0 e1;rw [hk];clear hk;simp_all;done)
    | (rw [e1 ?_];clear e0 e1;rw [hk];clear hk;simp_all;done)
  ·obtain ⟨j,rfl⟩:∃ j,i=j+1:=⟨i-1,by omega⟩
   have hj:j < r.ms.length:=by omega
   have hw1:IntKind.wrap .i64 (((j+1:Nat):Int)-1)=(j:Int):=by rw [bz (by omega) (by omega)];omega
   have hk:=fU ak.no ak.ok r.ms hi' (by omega);have hmj:=aD (c:=ak.cells) r.ms hj;have hlj:(j:Int) < (r.ms.length:Int):=by omega
   simp only [ak.cells] at hmj;simp only [Nat.add_sub_cancel] at hk;simp only [go_sem,seval,hm,aG]
   repeat' with_reducible first|apply And.intro|exact .dq|refine aa.pure (by assumption) ?_|refine aa.pure (h1) ?_|refine .aM (fun h=>?_) fun h=>?_|refine .aK (fun h=>?_) fun h=>?_|refine .aO (fun h=>?_) fun h=>?_|refine .split (fun h=>?_) fun h=>?_|refine .id ?_|refine ah.next (by omega) ?_ ?_|exact trivial|simp only [*,go_sem,seval,hmj,aG]
   all_goals first
    | omega
    | rfl
    | (refine e0 ?_;clear e0 e1;rw [hk];clear hk;simp_all;done)
    | (refine e0 ?_;clear e0 e1;rw [hk];clear hk;simp_all;omega)
    | (rw [e1 ?_];clear e0 e1;rw [hk];clear hk;simp_all;done)
    | (rw [e1 ?_];clear e0 e1;rw [hk];clear hk;simp_all;omega)
 have hR1:=uc (fun j (hj:j < r.ms.length)=>hI j (by omega));clear hI;simp only [go_sem,seval,aG];refine aC.count r.ns.length [1] [32] (fun i=>[(4,.int .i64 i)]) (fun i=>[]) (fun i=>∀ j < i,cw aq.no aq.ok r.ns j=true) (by simp) ?_ ?_
 ·simp only [go_sem,seval]<;>simp
 intro i hi hI;simp only [go_sem,seval,aG];refine bJ.aK (fun h=>?_) (fun h=>?_)
 ·have hi':i < r.ns.length:=by omega
  have hw:IntKind.wrap .i64 ((i:Int)+1)=((i+1:Nat):Int):=by rw [bz (by omega) (by omega)];omega
  have hm:=aD (c:=aq.cells) r.ns hi';have h1:=rN r.ns[i];have e0:=u9 (i:=i) hI;have e1:cw aq.no aq.ok r.ns i=false->r.okB=false:=fun hx=>by simp [au.okB,Bv hi' hx]
  have hlt:(i:Int) < (r.ns.length:Int):=by omega
  simp only [aq.cells] at hm h1;rcases Nat.eq_zero_or_pos i with rfl | hpos
  ·have hk:=fX aq.no aq.ok r.ns hi' (by omega);simp only [go_sem,seval,hm,aG]
   repeat' with_reducible first|apply And.intro|exact .dq|refine aa.pure (by assumption) ?_|refine aa.pure (h1) ?_|refine .aM (fun h=>?_) fun h=>?_|refine .aK (fun h=>?_) fun h=>?_|refine .aO (fun h=>?_) fun h=>?_|refine .split (fun h=>?_) fun h=>?_|refine .id ?_|refine ah.next (by omega) ?_ ?_|exact trivial|simp only [*,go_sem,seval]
   all_goals first
    | omega
    | rfl
    | (refine e0 ?_;clear e0 e1;rw [hk];clear hk;simp_all;done)
    | (rw [e1 ?_];clear e0 e1;rw [hk];clear hk;simp_all;done)
  ·obtain ⟨j,rfl⟩:∃ j,i=j+1:=⟨i-1,by omega⟩
   have hj:j < r.ns.length:=by omega
   have hw1:IntKind.wrap .i64 (((j+1:Nat):Int)-1)=(j:Int):=by rw [bz (by omega) (by omega)];omega
   have hk:=fU aq.no aq.ok r.ns hi' (by omega);have hmj:=aD (c:=aq.cells) r.ns hj;have hlj:(j:Int) < (r.ns.length:Int):=by omega
   simp only [aq.cells] at hmj;simp only [Nat.add_sub_cancel] at hk;simp only [go_sem,seval,hm,aG]
   repeat' with_reducible first|apply And.intro|exact .dq|refine aa.pure (by assumption) ?_|refine aa.pure (h1) ?_|refine .aM (fun h=>?_) fun h=>?_|refine .aK (fun h=>?_) fun h=>?_|refine .aO (fun h=>?_) fun h=>?_|refine .split (fun h=>?_) fun h=>?_|refine .id ?_|refine ah.next (by omega) ?_ ?_|exact trivial|simp only [*,go_sem,seval,hmj,aG]
   all_goals first
    | omega
    | rfl
    | (refine e0 ?_;clear e0 e1;rw [hk];clear hk;simp_all;done)
    | (refine e0 ?_;clear e0 e1;rw [hk];clear hk;simp_all;omega)
    | (rw [e1 ?_];clear e0 e1;rw [hk];clear hk;simp_all;done)
    | (rw [e1 ?_];clear e0 e1;rw [hk];clear hk;simp_all;omega)
 have hR2:=uc (fun j (hj:j < r.ns.length)=>hI j (by omega));clear hI;simp only [go_sem,seval,aG];refine aC.count r.xs.length [1] [32] (fun i=>[(5,.int .i64 i)]) (fun i=>[]) (fun i=>∀ j < i,cw av.a av.ok r.xs j=true) (by simp) ?_ ?_
 ·simp only [go_sem,seval]<;>simp
 intro i hi hI;simp only [go_sem,seval,aG];refine bJ.aK (fun h=>?_) (fun h=>?_)
 ·have hi':i < r.xs.length:=by omega
  have hw:IntKind.wrap .i64 ((i:Int)+1)=((i+1:Nat):Int):=by rw [bz (by omega) (by omega)];omega
  have hm:=aD (c:=av.cells) r.xs hi';have h1:=pI r.xs[i];have e0:=u9 (i:=i) hI;have e1:cw av.a av.ok r.xs i=false->r.okB=false:=fun hx=>by simp [au.okB,Bv hi' hx]
  have hlt:(i:Int) < (r.xs.length:Int):=by omega
  simp only [av.cells] at hm h1;rcases Nat.eq_zero_or_pos i with rfl | hpos
  ·have hk:=fX av.a av.ok r.xs hi' (by omega);simp only [go_sem,seval,hm,aG]
   repeat' with_reducible first|apply And.intro|exact .dq|refine aa.pure (by assumption) ?_|refine aa.pure (h1) ?_|refine .aM (fun h=>?_) fun h=>?_|refine .aK (fun h=>?_) fun h=>?_|refine .aO (fun h=>?_) fun h=>?_|refine .split (fun h=>?_) fun h=>?_|refine .id ?_|refine ah.next (by omega) ?_ ?_|exact trivial|simp only [*,go_sem,seval]
   all_goals first
    | omega
    | rfl
    | (refine e0 ?_;clear e0 e1;rw [hk];clear hk;simp_all;done)
    | (rw [e1 ?_];clear e0 e1;rw [hk];clear hk;simp_all;done)
  ·obtain ⟨j,rfl⟩:∃ j,i=j+1:=⟨i-1,by omega⟩
   have hj:j < r.xs.length:=by omega
   have hw1:IntKind.wrap .i64 (((j+1:Nat):Int)-1)=(j:Int):=by rw [bz (by omega) (by omega)];omega
   have hk:=fU av.a av.ok r.xs hi' (by omega);have hmj:=aD (c:=av.cells) r.xs hj;have hlj:(j:Int) < (r.xs.length:Int):=by omega
   simp only [av.cells] at hmj;simp only [Nat.add_sub_cancel] at hk;simp only [go_sem,seval,hm,aG]
   repeat' with_reducible first|apply And.intro|exact .dq|refine aa.pure (by assumption) ?_|refine aa.pure (h1) ?_|refine .aM (fun h=>?_) fun h=>?_|refine .aK (fun h=>?_) fun h=>?_|refine .aO (fun h=>?_) fun h=>?_|refine .split (fun h=>?_) fun h=>?_|refine .id ?_|refine ah.next (by omega) ?_ ?_|exact trivial|simp only [*,go_sem,seval,hmj,aG]
   all_goals first
    | omega
    | rfl
    | (refine e0 ?_;clear e0 e1;rw [hk];clear hk;simp_all;done)
    | (refine e0 ?_;clear e0 e1;rw [hk];clear hk;simp_all;omega)
    | (rw [e1 ?_];clear e0 e1;rw [hk];clear hk;simp_all;done)
    | (rw [e1 ?_];clear e0 e1;rw [hk];clear hk;simp_all;omega)
 have hR3:=uc (fun j (hj:j < r.xs.length)=>hI j (by omega));clear hI;simp only [go_sem,seval,aG];have e:r.okB=true:=by simp [au.okB,hR1,hR2,hR3]
 rw [e]
theorem dc (r:au) (n:Int) (hl:r.small):Abs.Spec Tryz.prog 117 [] [.agg r.cells,.int .i64 n] [] (.bI [.agg (aT r n).cells,.bool (bf r n)]):=by
 obtain ⟨l1,l2,l3⟩:=hl;simp only [au.cells];refine bg 28 2 [.cell 4 82,.tmp 5] mixed Tryz.func117 ?_;simp only [go_sem,seval,aG];refine aC.walk (S:=Unit) r.ns.length [1,2,4] [48,80] (fun i _=>[(6,.int .i64 i)]) (fun i _=>[]) (fun i _=>∀ j (hj:j < r.ns.length),j < i->r.ns[j].no≠n) () (by intros;omega) ?_ ?_ ?_
 ·simp only [go_sem,seval]<;>simp
 ·intro i _ hi hdi hw hI;have hm:=aD (c:=aq.cells) r.ns hi;have hlt:(i:Int) < (r.ns.length:Int):=by omega
  simp only [aq.cells] at hm |-;simp only [go_sem,seval,aG,hdi,hm];(with_reducible and_intros)<;>first|exact .dq|omega|skip
  cases hb:r.ns[i].no==n
  ·have hb2:r.ns[i].no≠n:=by simpa using hb
   simp only [go_sem,seval,hw];refine ah.step () hi ?_ ?_
   ·intro j hj hji;rcases Nat.lt_or_ge j i with h | h
    ·exact hI j hj h
    ·obtain rfl:j=i:=by omega
     exact hb2
   ·simp only [go_sem,seval]
  ·have hb2:r.ns[i].no=n:=by simpa using hb
   obtain ⟨g1,g2⟩:=gW (z:=aq.zero) hi hI hb2;have e1:aT r n=r.ns[i]:=g1;have e2:bf r n=true:=by simp [bf,g2]
   rw [e1,e2];simp only [go_sem,seval,hm,aG];(with_reducible and_intros)<;>first|exact .dq|omega|skip
 ·intro _ hdx hI;obtain ⟨g1,g2⟩:=fR (z:=aq.zero) (fun j hj=>hI j hj hj);have e1:aT r n=aq.zero:=g1;have e2:bf r n=false:=by simp [bf,g2]
  rw [e1,e2];simp only [go_sem,seval,aG,hdx,aq.cells,aq.zero]
end Go.Proofs.YtnkobepdbkmedaaGreat
