/- States, with all their rows, and what follows. No theorem of a claim. -/
import Derived.Test.YtnkobepdbkmedaaGreatDoorKB
import Derived.Test.YtnkobepdbkmedaaGreatDoorAbcOpen
import Derived.Test.YtnkobepdbkmedaaGreatDoorKA
set_option linter.unusedSimpArgs false
set_option linter.unusedVariables false
set_option maxHeartbeats 4000000
set_option maxRecDepth 16000
namespace Go.Proofs.YtnkobepdbkmedaaGreatDoor
open Go.Abs
def dj (n:Int):Prop:=-9223372036854775808<=n/\n<=9223372036854775807
structure aB where
 who:Int
 inst:Int
 bg:Int
 cost:Int
deriving DecidableEq
@[reducible] def aB.cells (x:aB):List D:=[.int .i64 x.who,.int .i64 x.inst,.int .i64 x.bg,.int .i64 x.cost]
def aB.cU (x:aB):Prop:=dj x.who/\dj x.inst/\dj x.bg/\dj x.cost
structure aL where
 no:Int
 gp:Int
 eC:Int
 inst:Int
 bg:Int
 aX:Int
 off:Bool
deriving DecidableEq
@[reducible] def aL.cells (x:aL):List D:=[.int .i64 x.no,.int .i64 x.gp,.int .i64 x.eC,.int .i64 x.inst,.int .i64 x.bg,.int .i64 x.aX,.bool x.off]
def aL.cU (x:aL):Prop:=dj x.no/\dj x.gp/\dj x.eC/\dj x.inst/\dj x.bg/\dj x.aX
structure aQ where
 who:Int
 cur:Int
 cm:Int
deriving DecidableEq
@[reducible] def aQ.cells (x:aQ):List D:=[.int .i64 x.who,.int .i64 x.cur,.int .i64 x.cm]
def aQ.cU (x:aQ):Prop:=dj x.who/\dj x.cur/\dj x.cm
structure aA where
 who:Int
 cur:Int
 cm:Int
 till:Int
deriving DecidableEq
@[reducible] def aA.cells (x:aA):List D:=[.int .i64 x.who,.int .i64 x.cur,.int .i64 x.cm,.int .i64 x.till]
def aA.cU (x:aA):Prop:=dj x.who/\dj x.cur/\dj x.cm/\dj x.till
structure bM where
 who:Int
 inst:Int
 src:Int
 bg:Int
 aX:Int
deriving DecidableEq
@[reducible] def bM.cells (x:bM):List D:=[.int .i64 x.who,.int .i64 x.inst,.int .i64 x.src,.int .i64 x.bg,.int .i64 x.aX]
def bM.cU (x:bM):Prop:=dj x.who/\dj x.inst/\dj x.src/\dj x.bg/\dj x.aX
structure eY where
 cur:Int
 iy:Int
 c0:Int
 c1:Int
 c2:Int
 c3:Int
 c4:Int
 rest:Int
deriving DecidableEq
@[reducible] def eY.cells (x:eY):List D:=[.int .i64 x.cur,.int .i64 x.iy,.int .i64 x.c0,.int .i64 x.c1,.int .i64 x.c2,.int .i64 x.c3,.int .i64 x.c4,.int .i64 x.rest]
def eY.cU (x:eY):Prop:=dj x.cur/\dj x.iy/\dj x.c0/\dj x.c1/\dj x.c2/\dj x.c3/\dj x.c4/\dj x.rest
def ak.cU (x:ak):Prop:=dj x.no/\dj x.state/\dj x.need
def ay.cU (x:ay):Prop:=dj x.no/\dj x.cur/\dj x.mult/\dj x.add/\dj x.set/\dj x.aX/\dj x.s0/\dj x.s1/\dj x.s2/\dj x.s3/\dj x.s4/\dj x.s5
def au.cU (x:au):Prop:=dj x.a/\dj x.b/\dj x.c/\dj x.d
def bC.cU (x:bC):Prop:=dj x.kind/\dj x.who/\dj x.cur/\dj x.sum
def dS.cU (x:dS):Prop:=dj x.who/\dj x.bG/\dj x.units
structure bq where
 code:Int
 no:Int
 cm:Int
 TQ:List aQ
 falls:List eY
deriving DecidableEq
@[reducible] def bq.cells (x:bq):List D:=[.int .i64 x.code,.int .i64 x.no,.int .i64 x.cm,.sl 3 (x.TQ.map aQ.cells),.sl 8 (x.falls.map eY.cells)]
def bq.fits (x:bq):Prop:=24*x.TQ.length<=140737488355328/\64*x.falls.length<=140737488355328
def bq.cU (x:bq):Prop:=True/\True/\True/\True/\True/\x.fits
structure ck where
 client:Int
 seq:Int
 r:bq
deriving DecidableEq
@[reducible] def ck.cells (x:ck):List D:=[.int .i64 x.client,.int .i64 x.seq,.int .i64 x.r.code,.int .i64 x.r.no,.int .i64 x.r.cm,.sl 3 (x.r.TQ.map aQ.cells),.sl 8 (x.r.falls.map eY.cells)]
def ck.cU (x:ck):Prop:=dj x.client/\dj x.seq/\x.r.cU
structure aF where
 next:Int
 ts:List aL
 qs:List aB
@[reducible] def aF.cells (b:aF):List D:=[.int .i64 b.next,.sl 7 (b.ts.map aL.cells),.sl 4 (b.qs.map aB.cells)]
structure af where
 now:Int
 day:Int
 phase:Int
 aj:aq
 book:aF
 aW:bz
 ps:List dS
 calls:List aA
 bp:List bM
 aN:List ck
@[reducible] def af.cells (s:af):List D:=[.int .i64 s.now,.int .i64 s.day,.int .i64 s.phase,.sl 3 (s.aj.ms.map ak.cells),.sl 12 (s.aj.ns.map ay.cells),.sl 4 (s.aj.xs.map au.cells),.int .i64 s.book.next,.sl 7 (s.book.ts.map aL.cells),.sl 4 (s.book.qs.map aB.cells),
 .int .i64 s.aW.last,.sl 4 (s.aW.bs.map bC.cells),.sl 3 (pl s.ps),.sl 4 (s.calls.map aA.cells),.sl 5 (s.bp.map bM.cells),.sl 7 (s.aN.map ck.cells)]
structure af.cU (s:af):Prop where
 now:dj s.now
 day:dj s.day
 phase:dj s.phase
 ms:∀ x∈s.aj.ms,x.cU
 ns:∀ x∈s.aj.ns,x.cU
 xs:∀ x∈s.aj.xs,x.cU
 next:dj s.book.next
 ts:∀ x∈s.book.ts,x.cU
 qs:∀ x∈s.book.qs,x.cU
 last:dj s.aW.last
 bs:∀ x∈s.aW.bs,x.cU
 ps:∀ x∈s.ps,x.cU
 calls:∀ x∈s.calls,x.cU
 bp:∀ x∈s.bp,x.cU
 aN:∀ x∈s.aN,x.cU
def lz {A:Type} (ok:A->Bool) (lt:A->A->Bool) (xs:List A) (i:Nat):Bool:=
 match xs[i]? with
 | none=>true
 | some b=>ok b&&(match i with
  | 0=>true
  | j+1=>match xs[j]? with
   | some q=>lt q b
   | none=>true)
def mO {A:Type} (ok:A->Bool) (lt:A->A->Bool) (xs:List A):Bool:=(List.range xs.length).all (lz ok lt xs)
section
variable {A:Type} {ok:A->Bool} {lt:A->A->Bool} {xs:List A}
theorem gJ (h:0 < xs.length):lz ok lt xs 0=ok xs[0]:=by simp [lz,h]
theorem gm {j:Nat} (h:j+1 < xs.length):lz ok lt xs (j+1)=(ok xs[j+1]&&lt (xs[j]'(by omega)) xs[j+1]):=by
 have h':j < xs.length:=by omega
 simp [lz,h,h']
theorem sj {i:Nat} (h:i < xs.length) (hn:lz ok lt xs i=false):mO ok lt xs=false:=by
 cases hc:mO ok lt xs
 ·rfl
 ·rw [List.all_eq_true.1 hc i (List.mem_range.2 h)] at hn;cases hn
theorem mM (h:∀ i < xs.length,lz ok lt xs i=true):mO ok lt xs=true:=List.all_eq_true.2 fun i hi=>h i (List.mem_range.1 hi)
theorem UB (h:mO ok lt xs=true) {i:Nat} (hi:i < xs.length):lz ok lt xs i=true:=List.all_eq_true.1 h i (List.mem_range.2 hi)
theorem K3 (h:mO ok lt xs=true) {i:Nat} (hi:i < xs.length):ok xs[i]=true:=by
 have:=UB h hi;cases i with
 | zero=>rwa [gJ hi] at this
 | succ j=>rw [gm hi,cr] at this;exact this.1
theorem nN {i:Nat} (hI:∀ j < i,lz ok lt xs j=true) (h0:lz ok lt xs i=true):∀ k < i+1,lz ok lt xs k=true:=fun k hk=>by
 rcases Nat.lt_or_ge k i with h | h
 ·exact hI k h
 ·obtain rfl:k=i:=by omega
  exact h0
end
def pz (w n:Int):Bool:=within w 1 16&&within n 1 8
def Gs (a b c d:Int):Bool:=decide (a < c)||(a==c&&decide (b < d))
theorem qo (w n:Int):Abs.Spec Tryz.prog 143 [] [.agg [.int .i64 w,.int .i64 n]] [] (.bool (pz w n)):=by
 refine bu 21 1 [.tmp 2] mixed Tryz.func143 ?_;simp only [go_sem,seval]
 repeat' with_reducible first|apply And.intro|exact .dq|refine aa.pure (by assumption) ?_|refine .aT (fun h=>?_) fun h=>?_|refine .aO (fun h=>?_) fun h=>?_|refine .aS (fun h=>?_) fun h=>?_|refine .split (fun h=>?_) fun h=>?_|refine .id ?_|refine ah.next (by omega) ?_ ?_|exact trivial|simp only [*,go_sem,seval]
 all_goals (simp_all [pz,within];try omega)
theorem KP (a b c d:Int):Abs.Spec Tryz.prog 145 [] [.agg [.int .i64 a,.int .i64 b],.agg [.int .i64 c,.int .i64 d]] [] (.bool (Gs a b c d)):=by
 refine bu 24 2 [.tmp 4] mixed Tryz.func145 ?_;simp only [go_sem,seval]
 repeat' with_reducible first|apply And.intro|exact .dq|refine aa.pure (by assumption) ?_|refine .aT (fun h=>?_) fun h=>?_|refine .aO (fun h=>?_) fun h=>?_|refine .aS (fun h=>?_) fun h=>?_|refine .split (fun h=>?_) fun h=>?_|refine .id ?_|refine ah.next (by omega) ?_ ?_|exact trivial|simp only [*,go_sem,seval]
 all_goals (simp only [Gs];simp_all)
def aL.okB (t:aL):Bool:=within t.bg 1 1048576&&(within t.aX 1 1073741824&&(t.gp != t.eC&&(pz t.gp t.inst&&pz t.eC t.inst)))
theorem DO (t:aL):Abs.Spec Tryz.prog 146 [] [.agg t.cells] [] (.bool t.okB):=by
 have h1:=qo t.gp t.inst;have h2:=qo t.eC t.inst;simp only [aL.cells];refine bu 44 1 [.tmp 2] mixed Tryz.func146 ?_;simp only [go_sem,seval]
 repeat' with_reducible first|apply And.intro|exact .dq|refine aa.pure (by assumption) ?_|refine aa.pure (h1) ?_|refine aa.pure (h2) ?_|refine .aT (fun h=>?_) fun h=>?_|refine .aO (fun h=>?_) fun h=>?_|refine .aS (fun h=>?_) fun h=>?_|refine .split (fun h=>?_) fun h=>?_|refine .id ?_|refine ah.next (by omega) ?_ ?_|exact trivial|simp only [*,go_sem,seval]
 all_goals first
  | (simp_all [aL.okB,within,bne];done)
  | (rw [Bool.eq_iff_iff];simp_all [aL.okB,within];omega)
def aB.okB (p:aB):Bool:=pz p.who p.inst&&(within p.bg (-1099511627776) 1099511627776&&(bL p.cost&&!(p.bg==0&&p.cost==0)))
def ga (a b:aB):Bool:=Gs a.who a.inst b.who b.inst
def cu (n:Int) (l:List aB):List Int:=(l.filter (·.inst==n)).map aB.bg
def kY (n:Int) (l:List aB):Bool:=qM (cu n l)==0&&qB (cu n l)==0
def mK (l:List aB):Bool:=(List.range 8).all fun i=>kY ((i:Int)+1) l
theorem G3 (n:Int) (l:List aB) {i:Nat} (h:i < l.length):cu n (l.take (i+1))=if l[i].inst==n then cu n (l.take i)++[l[i].bg] else cu n (l.take i):=by
 simp only [cu];rw [List.take_succ_eq_append_getElem h,List.filter_append,List.map_append];cases hb:l[i].inst==n<;>simp [List.filter,hb]
theorem vY (n:Int) (l:List aB):(cu n l).length<=l.length:=by
 simp only [cu,aJ];exact List.length_filter_le _ _
theorem Pv (l:List aB) (hl:l.length < 2 ^ 30):Abs.Spec Tryz.prog 147 [] [.sl 4 (l.map aB.cells)] [] (.bool (mK l)):=by
 refine bu 41 1 [.tmp 2] mixed Tryz.func147 ?_;simp only [go_sem,seval];refine aC.count 8 [0] [] (fun i=>[(3,.int .i64 ((i:Int)+1))]) (fun i=>[]) (fun i=>∀ j < i,kY ((j:Int)+1) l=true) (by simp) ?_ ?_
 ·simp only [go_sem,seval]<;>simp
 intro c hc hI;rcases Nat.lt_or_ge c 8 with hc' | hc'
 case inr =>
  obtain rfl:c=8:=by omega
  have e:mK l=true:=List.all_eq_true.2 fun j hj=>hI j (List.mem_range.1 hj)
  simp only [go_sem,seval,e]<;>simp
 obtain ⟨n,hn⟩:=aH ((c:Int)+1);have hd:decide (n<=8)=true:=decide_eq_true (by omega);have hw:IntKind.wrap .i64 (n+1)=((c+1:Nat):Int)+1:=by rw [bn (by omega) (by omega)];omega
 rw [<- hn];simp only [go_sem,seval,hd,aJ];refine aC.walk (S:=Unit) l.length [0,3,13,14] [240] (fun i _=>[(15,.int .i64 i),(4,.ref 464)]) (fun i _=>[(464,.own 1 (ints (cu n (l.take i))))]) (fun _ _=>True) () trivial ?_ ?_ ?_
 ·simp only [go_sem,seval]<;>simp [cu,ints]
 ·intro i _ hi hdi hwi _;have hm:=aG (c:=aB.cells) l hi;have hs:=G3 n l hi;have hlen:=vY n (l.take i);have hlt:(l.take i).length<=l.length:=by simp;omega
  simp only [aB.cells] at hm;simp only [go_sem,seval,hdi,hm];refine ⟨by omega,?_⟩;cases hb:l[i].inst==n
  ·rw [hb] at hs;simp only [fZ,if_false] at hs;simp only [go_sem,seval,hwi];refine ah.step () hi trivial ?_;simp only [go_sem,seval,hs]
  ·rw [hb,if_pos rfl] at hs;simp only [go_sem,seval,hwi,av];refine ⟨by omega,ah.step () hi trivial ?_⟩;simp only [go_sem,seval,hs]<;>simp [ints]
 ·intro _ hdx _;have hlen:=vY n l;have hsum:=Gz (cu n l) (by omega)
  have hbad:kY n l=false->mK l=false:=fun hx=>by
   cases hh:mK l
   ·rfl
   ·have:=List.all_eq_true.1 hh c (List.mem_range.2 hc');rw [<- hn,hx] at this;cases this
  have hgood:kY n l=true->∀ j < c+1,kY ((j:Int)+1) l=true:=fun hx j hj=>by
   rcases Nat.lt_or_ge j c with h | h
   ·exact hI j h
   ·obtain rfl:j=c:=by omega
    rw [<- hn];exact hx
  simp only [go_sem,seval,hdx,List.take_length];refine aa.gen [] [] true (by simp) ?_;simp only [go_sem,seval];refine aU.intro hsum ?_;cases hE:qM (cu n l)==0
  ·simp only [go_sem,seval,bne,hE,hbad (by simp [kY,hE])]
  cases hN:qB (cu n l)==0
  ·simp only [go_sem,seval,bne,hE,hN,hbad (by simp [kY,hE,hN])]
  simp only [go_sem,seval,bne,hE,hN,hw];refine ah.next hc' (hgood (by simp [kY,hE,hN])) ?_
  simp only [go_sem,seval]
def eW (n:Int) (t:aL):Bool:=t.okB&&(!decide (t.no < 1)&&!decide (n < t.no))
def eJ (a b:aL):Bool:=decide (a.no < b.no)
def aF.okB (b:aF):Bool:=mO aB.okB ga b.qs&&(mO (eW b.next) eJ b.ts&&(mK b.qs&&(!decide (128 < (b.ts.length:Int))&&(!decide (b.next < 0)&&!decide (1099511627776 < b.next)))))
def aF.small (b:aF):Prop:=b.ts.length < 2 ^ 30/\b.qs.length < 2 ^ 30
theorem vm (b:aF) (hl:b.small):Abs.Spec Tryz.prog 68 [] [.agg b.cells] [] (.int .i64 (if b.okB then 0 else 14)):=by
 obtain ⟨hl1,hl2⟩:=hl;have hlev:=Pv b.qs (by omega);simp only [aF.cells];refine bu 124 1 [.tmp 2] mixed Tryz.func68 ?_;simp only [go_sem,seval,aJ];refine aC.count b.qs.length [1,8,9] [32,160] (fun i=>[(10,.int .i64 i)]) (fun i=>[]) (fun i=>∀ j < i,lz aB.okB ga b.qs j=true) (by simp) ?_ ?_
 ·simp only [go_sem,seval]<;>simp
 ·intro i hi hI;simp only [go_sem,seval];refine bH.aO (fun h=>?_) (fun h=>?_)
  ·have hi':i < b.qs.length:=by omega
   have hw:IntKind.wrap .i64 ((i:Int)+1)=((i+1:Nat):Int):=by rw [bn (by omega) (by omega)];omega
   have hm:=aG (c:=aB.cells) b.qs hi';have h1:=qo b.qs[i].who b.qs[i].inst;have h2:Abs.Spec Tryz.prog 144 [] [.sl 1 [[.int .i64 b.qs[i].cost]]] [] (.bool (right [b.qs[i].cost])):=gA [b.qs[i].cost] (by simp);rw [mG] at h2;have e0:=nN (i:=i) hI;have e1:lz aB.okB ga b.qs i=false->b.okB=false:=fun hx=>by simp [aF.okB,sj hi' hx]
   simp only [aB.cells] at hm;rcases Nat.eq_zero_or_pos i with rfl | hpos
   ·have hk:=gJ (ok:=aB.okB) (lt:=ga) hi';simp only [aB.okB,within] at hk;clear hlev;simp only [go_sem,seval,hm]
    repeat' with_reducible first|apply And.intro|exact .dq|refine aa.pure (by assumption) ?_|refine aa.pure (h1) ?_|(refine aa.gen [] [] true (by simp) ?_;simp only [go_sem,seval];refine aU.intro h2 ?_)|refine .aT (fun h=>?_) fun h=>?_|refine .aO (fun h=>?_) fun h=>?_|refine .aS (fun h=>?_) fun h=>?_|refine .split (fun h=>?_) fun h=>?_|refine .id ?_|refine ah.next (by omega) ?_ ?_|exact trivial|simp only [*,go_sem,seval]
    all_goals first
     | omega
     | rfl
     | (refine e0 ?_;clear e0 e1;rw [hk];clear hk;simp_all;done)
     | (refine e0 ?_;clear e0 e1;rw [hk];clear hk;simp_all;omega)
     | (rw [e1 ?_]
        ·rfl
        ·clear e0 e1;rw [hk];clear hk;simp_all;done)
     | (rw [e1 ?_]
        ·rfl
        ·clear e0 e1;rw [hk];clear hk;simp_all;omega)
   ·obtain ⟨j,rfl⟩:∃ j,i=j+1:=⟨i-1,by omega⟩
    have hj:j < b.qs.length:=by omega
    have hw1:IntKind.wrap .i64 (((j+1:Nat):Int)-1)=(j:Int):=by rw [bn (by omega) (by omega)];omega
    have hk:=gm (ok:=aB.okB) (lt:=ga) hi';simp only [aB.okB,within,ga] at hk;have hmj:=aG (c:=aB.cells) b.qs hj;have h4:=KP b.qs[j].who b.qs[j].inst b.qs[j+1].who b.qs[j+1].inst;simp only [aB.cells] at hmj;clear hlev;simp only [go_sem,seval,hm]
    repeat' with_reducible first|apply And.intro|exact .dq|refine aa.pure (by assumption) ?_|refine aa.pure (h1) ?_|refine aa.pure (h4) ?_|(refine aa.gen [] [] true (by simp) ?_;simp only [go_sem,seval];refine aU.intro h2 ?_)|refine .aT (fun h=>?_) fun h=>?_|refine .aO (fun h=>?_) fun h=>?_|refine .aS (fun h=>?_) fun h=>?_|refine .split (fun h=>?_) fun h=>?_|refine .id ?_|refine ah.next (by omega) ?_ ?_|exact trivial|simp only [*,go_sem,seval,hmj]
    all_goals first
     | omega
     | rfl
     | (refine e0 ?_;clear e0 e1;rw [hk];clear hk;simp_all;done)
     | (refine e0 ?_;clear e0 e1;rw [hk];clear hk;simp_all;omega)
     | (rw [e1 ?_]
        ·rfl
        ·clear e0 e1;rw [hk];clear hk;simp_all;done)
     | (rw [e1 ?_]
        ·rfl
        ·clear e0 e1;rw [hk];clear hk;simp_all;omega)
  ·obtain rfl:i=b.qs.length:=by omega
   have hP:=mM hI;simp only [go_sem,seval,aJ];refine aC.count b.ts.length [1,65,66] [32,1072] (fun i=>[(67,.int .i64 i)]) (fun i=>[]) (fun i=>∀ j < i,lz (eW b.next) eJ b.ts j=true) (by simp) ?_ ?_
   ·simp only [go_sem,seval]<;>simp
   ·intro i hi hI;simp only [go_sem,seval];refine bH.aO (fun h=>?_) (fun h=>?_)
    ·have hi':i < b.ts.length:=by omega
     have hw:IntKind.wrap .i64 ((i:Int)+1)=((i+1:Nat):Int):=by rw [bn (by omega) (by omega)];omega
     have hm:=aG (c:=aL.cells) b.ts hi';have h1:=DO b.ts[i];have e0:=nN (i:=i) hI;have e1:lz (eW b.next) eJ b.ts i=false->b.okB=false:=fun hx=>by simp [aF.okB,sj hi' hx]
     simp only [aL.cells] at hm h1;rcases Nat.eq_zero_or_pos i with rfl | hpos
     ·have hk:=gJ (ok:=eW b.next) (lt:=eJ) hi';simp only [eW] at hk;clear hlev hP;simp only [go_sem,seval,hm]
      repeat' with_reducible first|apply And.intro|exact .dq|refine aa.pure (by assumption) ?_|refine aa.pure (h1) ?_|refine .aT (fun h=>?_) fun h=>?_|refine .aO (fun h=>?_) fun h=>?_|refine .aS (fun h=>?_) fun h=>?_|refine .split (fun h=>?_) fun h=>?_|refine .id ?_|refine ah.next (by omega) ?_ ?_|exact trivial|simp only [*,go_sem,seval]
      all_goals first
       | omega
       | rfl
       | (refine e0 ?_;clear e0 e1;rw [hk];clear hk;simp_all;done)
       | (refine e0 ?_;clear e0 e1;rw [hk];clear hk;simp_all;omega)
       | (rw [e1 ?_]
          ·rfl
          ·clear e0 e1;rw [hk];clear hk;simp_all;done)
     ·obtain ⟨j,rfl⟩:∃ j,i=j+1:=⟨i-1,by omega⟩
      have hj:j < b.ts.length:=by omega
      have hw1:IntKind.wrap .i64 (((j+1:Nat):Int)-1)=(j:Int):=by rw [bn (by omega) (by omega)];omega
      have hk:=gm (ok:=eW b.next) (lt:=eJ) hi';simp only [eW,eJ] at hk;have hmj:=aG (c:=aL.cells) b.ts hj;simp only [aL.cells] at hmj;clear hlev hP;simp only [go_sem,seval,hm]
      repeat' with_reducible first|apply And.intro|exact .dq|refine aa.pure (by assumption) ?_|refine aa.pure (h1) ?_|refine .aT (fun h=>?_) fun h=>?_|refine .aO (fun h=>?_) fun h=>?_|refine .aS (fun h=>?_) fun h=>?_|refine .split (fun h=>?_) fun h=>?_|refine .id ?_|refine ah.next (by omega) ?_ ?_|exact trivial|simp only [*,go_sem,seval,hmj]
      all_goals first
       | omega
       | rfl
       | (refine e0 ?_;clear e0 e1;rw [hk];clear hk;simp_all;done)
       | (refine e0 ?_;clear e0 e1;rw [hk];clear hk;simp_all;omega)
       | (rw [e1 ?_]
          ·rfl
          ·clear e0 e1;rw [hk];clear hk;simp_all;done)
    ·obtain rfl:i=b.ts.length:=by omega
     have hT:=mM hI;have e:b.okB=(mK b.qs&&(!decide (128 < (b.ts.length:Int))&&(!decide (b.next < 0)&&!decide (1099511627776 < b.next)))):=by simp [aF.okB,hP,hT]
     rw [e];clear e hP hT hI;simp only [go_sem,seval,aJ];refine aa.pure hlev ?_;cases b1:mK b.qs
     ·simp only [go_sem,seval,b1]<;>simp
     cases b2:decide (128 < (b.ts.length:Int))
     case true=>simp only [go_sem,seval,aJ,b1,b2]<;>simp
     cases b3:decide (b.next < 0)
     case true=>simp only [go_sem,seval,aJ,b1,b2,b3]<;>simp
     cases b4:decide (1099511627776 < b.next)<;>simp only [go_sem,seval,aJ,b1,b2,b3,b4]<;>simp
theorem aeZ {x:Int} (h:0<=x) (h':x < 18446744073709551616):Wb .u64 x=18446744073709551615-x:=by
 have:=aiG x.toNat (by omega);rw [Int.toNat_of_nonneg h] at this;rw [this];omega
theorem ae2 (a:Int) (h:dj a):Abs.Spec Tryz.prog 89 [] [.int .i64 a] [] (.int .u64 (a.natAbs:Nat)):=by
 obtain ⟨h1,h2⟩:=h;refine bu 10 1 [.tmp 2] mixed Tryz.func89 ?_;rcases Int.lt_or_le a 0 with hn | hn
 ·have d:decide (a < 0)=true:=decide_eq_true hn;have e:IntKind.wrap .u64 (0-IntKind.wrap .u64 a)=(a.natAbs:Nat):=by rw [IntKind.wrap_u64,IntKind.wrap_u64];omega
  simp only [go_sem,seval,d,e]
 ·have d:decide (a < 0)=false:=decide_eq_false (by omega);have e:IntKind.wrap .u64 a=(a.natAbs:Nat):=by rw [IntKind.wrap_u64];omega
  simp only [go_sem,seval,d,e]
theorem ZW (W:Int):(18446744073709551615-W%18446744073709551616+1+0)%18446744073709551616=(-W)%18446744073709551616:=by omega
theorem Y7 (W:Int) (h:-85070591730234615865843651857942052864<=W/\W<=85070591730234615865843651857942052864) :
  IntKind.wrap .i64 ((18446744073709551615-(W / 18446744073709551616)%18446744073709551616+0+(18446744073709551615-W%18446744073709551616+1+0) / 18446744073709551616)%18446744073709551616)=(-W) / 18446744073709551616:=by
 obtain ⟨q,hq⟩:=aH (W / 18446744073709551616);obtain ⟨l,hl⟩:=aH (W%18446744073709551616);obtain ⟨c,hc⟩:=aH ((18446744073709551615-l+1+0) / 18446744073709551616);have h1:(-W) / 18446744073709551616 = -q-1+c:=by omega
 have h2:-4611686018427387904<=q/\q<=4611686018427387904:=by omega
 have h3:0<=c/\c<=1:=by omega
 rw [<- hq,<- hl,<- hc,h1,IntKind.wrap_i64];clear hq hl hc h1 h;obtain ⟨x,hx⟩:=aH ((18446744073709551615-q%18446744073709551616+0+c)%18446744073709551616);rw [<- hx];rcases Int.lt_or_le x 9223372036854775808 with h | h<;>omega
theorem afN (W:Int) (h:-85070591730234615865843651857942052864<=W/\W<=85070591730234615865843651857942052864):Abs.Spec Tryz.prog 90 [] [.agg (wd W)] [] (.agg (wd (-W))):=by
 have hn1:=aeZ (x:=W%18446744073709551616) (by omega) (by omega);have hu:IntKind.wrap .u64 (W / 18446744073709551616)=(W / 18446744073709551616)%18446744073709551616:=IntKind.wrap_u64 _;have hn2:=aeZ (x:=(W / 18446744073709551616)%18446744073709551616) (by omega) (by omega);have e1:=ZW W;have e2:=Y7 W h;simp only [wd];refine bu 27 1 [.cell 2 117] mixed Tryz.func90 ?_;simp only [go_sem,seval,hn1];refine aa.sem rfl ?_
 with_reducible refine lS.tK (k:=91) (fn:=Tryz.f91) (i:=18446744073709551615-W%18446744073709551616) (j:=1) (m:=0) ?_ Tryz.func91 ?_ ?_ jj iY ?_ ?_ ?_ ?_ ?_ ?_ ?_ ?_ ?_
 iterate 11 (first | rfl | omega)
 simp only [go_sem,seval,hu,hn2];refine aa.sem rfl ?_
 with_reducible refine lS.tK (k:=91) (fn:=Tryz.f91) (i:=18446744073709551615-(W / 18446744073709551616)%18446744073709551616) (j:=0) (m:=(18446744073709551615-W%18446744073709551616+1+0) / 18446744073709551616) ?_ Tryz.func91 ?_ ?_ jj iY ?_ ?_ ?_ ?_ ?_ ?_ ?_ ?_ ?_
 iterate 11 (first | rfl | omega)
 simp only [go_sem,seval,e1,e2]
theorem DZ (a b:Int):((a.natAbs*b.natAbs:Nat):Int)=if (decide (a < 0) != decide (b < 0))=true then -(a*b) else a*b:=by
 rw [Int.natCast_mul];rcases Int.lt_or_le a 0 with ha | ha<;>rcases Int.lt_or_le b 0 with hb | hb
 ·have e1:(a.natAbs:Int) = -a:=by omega
  have e2:(b.natAbs:Int) = -b:=by omega
  have d1:decide (a < 0)=true:=decide_eq_true ha;have d2:decide (b < 0)=true:=decide_eq_true hb;rw [e1,e2,d1,d2,Int.neg_mul_neg];rfl
 ·have e1:(a.natAbs:Int) = -a:=by omega
  have e2:(b.natAbs:Int)=b:=by omega
  have d1:decide (a < 0)=true:=decide_eq_true ha;have d2:decide (b < 0)=false:=decide_eq_false (by omega);rw [e1,e2,d1,d2,Int.neg_mul];rfl
 ·have e1:(a.natAbs:Int)=a:=by omega
  have e2:(b.natAbs:Int) = -b:=by omega
  have d1:decide (a < 0)=false:=decide_eq_false (by omega);have d2:decide (b < 0)=true:=decide_eq_true hb;rw [e1,e2,d1,d2,Int.mul_neg];rfl
 ·have e1:(a.natAbs:Int)=a:=by omega
  have e2:(b.natAbs:Int)=b:=by omega
  have d1:decide (a < 0)=false:=decide_eq_false (by omega);have d2:decide (b < 0)=false:=decide_eq_false (by omega);rw [e1,e2,d1,d2];rfl
theorem lX (a b:Int) (ha:dj a) (hb:dj b):Abs.Spec Tryz.prog 44 [] [.int .i64 a,.int .i64 b] [] (.agg (wd (a*b))):=by
 have h1:=ae2 a ha;have h2:=ae2 b hb;obtain ⟨ha1,ha2⟩:=ha;obtain ⟨hb1,hb2⟩:=hb;have h3:=yE a.natAbs b.natAbs (by omega) (by omega);obtain ⟨P,hP⟩:=aH (a.natAbs*b.natAbs)
 have hPb:P<=85070591730234615865843651857942052864:=by
  have:a.natAbs*b.natAbs<=9223372036854775808*9223372036854775808:=Nat.mul_le_mul (by omega) (by omega);omega
 have hPc:=DZ a b;rw [<- hP] at h3 hPc;have hw:IntKind.wrap .i64 ((P / 18446744073709551616:Nat):Int)=(P:Int) / 18446744073709551616:=by rw [IntKind.wrap_i64];omega
 have hl:((P%18446744073709551616:Nat):Int)=(P:Int)%18446744073709551616:=by omega
 have hneg:=afN (P:Int) (by omega);simp only [wd] at hneg |-;refine bu 28 2 [.cell 4 117] mixed Tryz.func44 ?_;simp only [go_sem,seval];refine aa.pure h1 ?_;simp only [go_sem,seval];refine aa.pure h2 ?_;simp only [go_sem,seval];refine aa.pure h3 ?_;cases hd:(decide (a < 0)==decide (b < 0))
 ·rw [bne,hd,if_pos (by rfl)] at hPc;have hPn:a*b = -(P:Int):=by omega
  simp only [go_sem,seval,hw,hl,hd];refine aa.pure hneg ?_;simp only [go_sem,seval,hPn]
 ·rw [bne,hd,if_neg (by simp)] at hPc;simp only [go_sem,seval,hw,hl,hd,hPc]
def ay.zero:ay:=⟨0,0,0,0,0,0,0,0,0,0,0,0⟩
theorem Hs (xs:List ay) (n:Int) (hl:xs.length < 2 ^ 62):Abs.Spec Tryz.prog 220 [] [.sl 12 (xs.map ay.cells),.fn 138 [],.int .i64 n] [] (.bI [.agg (fX ay.no n ay.zero xs).cells,.int .i64 (iJ ay.no n xs)]):=by
 refine bu 27 3 [.cell 6 121,.tmp 7] mixed Tryz.func220 ?_;simp only [go_sem,seval,aJ];refine aC.count xs.length [1,2,6,11,12] [112,208] (fun i=>[(13,.int .i64 i)]) (fun i=>[]) (fun i=>∀ j (hj:j < xs.length),j < i->xs[j].no≠n) (by simp) ?_ ?_
 ·simp only [go_sem,seval]<;>simp
 ·intro i hi hI;simp only [go_sem,seval];refine bH.aO (fun h=>?_) (fun h=>?_)
  ·have hi':i < xs.length:=by omega
   have hw:IntKind.wrap .i64 ((i:Int)+1)=((i+1:Nat):Int):=by rw [bn (by omega) (by omega)];omega
   have hm:=aG (c:=ay.cells) xs hi';have hno:=tS xs[i];simp only [ay.cells] at hm hno |-;simp only [go_sem,seval,hm];refine ⟨by omega,aa.pure hno ?_⟩;simp only [go_sem,seval];refine bH.split (fun hb=>?_) (fun hb=>?_)
   ·have hb:xs[i].no=n:=by simpa using hb
    obtain ⟨g1,g2⟩:=jg (z:=ay.zero) hi' hI hb;rw [g1,g2];simp only [go_sem,seval]
   ·have hb:xs[i].no≠n:=by simpa using hb
    simp only [go_sem,seval,hw];refine ah.next hi' ?_ ?_
    ·intro j hj hji;rcases Nat.lt_or_ge j i with h | h
     ·exact hI j hj h
     ·obtain rfl:j=i:=by omega
      exact hb
    ·simp only [go_sem,seval]
  ·obtain rfl:i=xs.length:=by omega
   obtain ⟨g1,g2⟩:=gK (z:=ay.zero) (fun j hj=>hI j hj hj);rw [g1,g2];simp only [go_sem,seval,ay.cells,ay.zero]
def bf (r:aq) (n:Int):ay:=fX ay.no n ay.zero r.ns
def br (r:aq) (n:Int):Bool:=decide (0<=iJ ay.no n r.ns)
theorem xJ (r:aq) (n:Int) (hl:r.small):Abs.Spec Tryz.prog 158 [] [.agg r.cells,.int .i64 n] [] (.bI [.agg (bf r n).cells,.bool (br r n)]):=by
 have h:=Hs r.ns n (by have:=hl.2.1;omega);obtain ⟨g,hg⟩:=aH (fX ay.no n ay.zero r.ns);simp only [bf,br];rw [<- hg] at h |-;simp only [ay.cells] at h |-;simp only [aq.cells];refine bu 18 2 [.cell 4 121,.tmp 5] mixed Tryz.func158 ?_;simp only [go_sem,seval];refine aa.pure h ?_;simp only [go_sem,seval]
structure ff where
 i:ay
 q:Int
@[reducible] def ff.cells (x:ff):List D:=[.int .i64 x.i.no,.int .i64 x.i.cur,.int .i64 x.i.mult,.int .i64 x.i.add,.int .i64 x.i.set,.int .i64 x.i.aX,.int .i64 x.i.s0,.int .i64 x.i.s1,.int .i64 x.i.s2,.int .i64 x.i.s3,.int .i64 x.i.s4,.int .i64 x.i.s5,.int .i64 x.q]
def Ge (r:aq) (w c:Int) (p:aB):Bool:=br r p.inst&&(p.who==w&&(bf r p.inst).cur==c)
def jE (r:aq) (w c:Int) (qs:List aB):List ff:=(qs.filter (Ge r w c)).map fun p=>⟨bf r p.inst,p.bg⟩
def oA (p:aB):Bool:=!decide (p.bg < -1099511627776)&&!decide (1099511627776 < p.bg)
def F8 (r:aq) (qs:List aB):Int:=if r.okB then (if qs.all oA then 0 else 3) else 14
def SY (r:aq) (w c:Int) (qs:List aB):List ff:=if F8 r qs=0 then jE r w c qs else []
theorem Fc (r:aq) (w c:Int) (l:List aB) {i:Nat} (h:i < l.length):jE r w c (l.take (i+1))=if Ge r w c l[i] then jE r w c (l.take i)++[⟨bf r l[i].inst,l[i].bg⟩] else jE r w c (l.take i):=by
 simp only [jE];rw [List.take_succ_eq_append_getElem h,List.filter_append,List.map_append];cases hb:Ge r w c l[i]<;>simp [List.filter,hb]
theorem rT (r:aq) (w c:Int) (l:List aB):(jE r w c l).length<=l.length:=by
 simp only [jE,aJ];exact List.length_filter_le _ _
theorem Dq (r:aq) (w c:Int) (qs:List aB) (hr:r.small) (hq:qs.length < 2 ^ 30):Abs.Spec Tryz.prog 75 [] [.agg r.cells,.int .i64 w,.int .i64 c,.sl 4 (qs.map aB.cells)] [.own 13 ((SY r w c qs).map ff.cells)] (.bI [.ref 0,.int .i64 (F8 r qs)]):=by
 have h2:=oT r hr;have h5:=fun n=>xJ r n hr
 simp only [aq.cells] at h2 h5 |-;refine bu 66 4 [.tmp 8,.tmp 9] mixed Tryz.func75 ?_;simp only [go_sem,seval];refine aa.pure h2 ?_;cases b2:r.okB
 ·have e:F8 r qs=14:=by simp [F8,b2]
  have e2:SY r w c qs=[]:=by simp [SY,e]
  simp only [go_sem,seval,e,e2]<;>simp
 simp only [go_sem,seval,aJ];refine aC.walk (S:=Unit) qs.length [1,2,4,21,22] [80,368] (fun i _=>[(23,.int .i64 i),(11,.ref 1024)]) (fun i _=>[(1024,.own 13 ((jE r w c (qs.take i)).map ff.cells))]) (fun i _=>∀ j (hj:j < qs.length),j < i->oA qs[j]=true) () (by intros;omega) ?_ ?_ ?_
 ·simp only [go_sem,seval]<;>simp [jE]
 ·intro i _ hi hdi hwi hI;have hm:=aG (c:=aB.cells) qs hi;have hs:=Fc r w c qs hi;have hlen:=rT r w c (qs.take i);have hlt:(qs.take i).length<=qs.length:=by simp;omega
  have hA:=h5 qs[i].inst;obtain ⟨x,hx⟩:=aH (bf r qs[i].inst)
  have hbad:oA qs[i]=false->F8 r qs=3:=fun hb=>by
   have:qs.all oA=false:=by
    cases hc:qs.all oA
    ·rfl
    ·rw [List.all_eq_true.1 hc _ (List.getElem_mem hi)] at hb;cases hb
   simp [F8,b2,this]
  have hnext:oA qs[i]=true->∀ j (hj:j < qs.length),j < i+1->oA qs[j]=true:=fun hb j hj hji=>by
   rcases Nat.lt_or_ge j i with h | h
   ·exact hI j hj h
   ·obtain rfl:j=i:=by omega
    exact hb
  simp only [Ge,<- hx] at hs;rw [<- hx] at hA;simp only [aB.cells] at hm;simp only [ay.cells] at hA;clear h5 h2 hI;simp only [go_sem,seval,hdi,hm];refine ⟨by omega,?_⟩;cases q1:decide (qs[i].bg < -1099511627776)
  case true =>
   have e:=hbad (by simp [oA,q1]);have e2:SY r w c qs=[]:=by simp [SY,e]
   simp only [go_sem,seval,q1,e,e2]<;>simp
  cases q2:decide (1099511627776 < qs[i].bg)
  case true =>
   have e:=hbad (by simp [oA,q2]);have e2:SY r w c qs=[]:=by simp [SY,e]
   simp only [go_sem,seval,q1,q2,e,e2]<;>simp
  have hn:=hnext (by simp [oA,q1,q2]);simp only [go_sem,seval,q1,q2];refine aa.pure hA ?_;cases p1:br r qs[i].inst
  ·simp only [p1,Bool.false_and,fZ,if_false] at hs;simp only [go_sem,seval,p1,hwi];refine ah.step () hi hn ?_;simp only [go_sem,seval,hs]
  cases p2:qs[i].who==w
  ·simp only [p1,p2,Bool.false_and,Bool.true_and,fZ,if_false] at hs;simp only [go_sem,seval,p1,p2,hwi];refine ah.step () hi hn ?_;simp only [go_sem,seval,hs]
  cases p3:x.cur==c
  ·simp only [p1,p2,p3,Bool.and_false,Bool.true_and,fZ,if_false] at hs;simp only [go_sem,seval,p1,p2,p3,hwi];refine ah.step () hi hn ?_;simp only [go_sem,seval,hs]
  simp only [p1,p2,p3,Bool.and_self,if_true] at hs;simp only [go_sem,seval,p1,p2,p3,hwi,aJ];refine ⟨by omega,ah.step () hi hn ?_⟩;simp only [go_sem,seval,hs]<;>simp
 ·intro _ hdx hI
  have hall:qs.all oA=true:=List.all_eq_true.2 fun p hp=>by
   obtain ⟨j,hj,rfl⟩:=List.mem_iff_getElem.1 hp;exact hI j hj hj
  have e:F8 r qs=0:=by simp [F8,b2,hall]
  have e2:SY r w c qs=jE r w c qs:=by simp [SY,e]
  simp only [go_sem,seval,hdx,List.take_length,e,e2]<;>simp
def kn (j:Nat) (p:ff):Int:=-p.q*p.i.mult*p.i.sh j
def gf (l:List ff) (j:Nat):Int:=az (l.map (kn j))
def wC (p:ff):Int:=max p.q (-p.q)*p.i.add
def D8 (p:ff):Prop:=p.i.ok=true /\ -1099511627776<=p.q/\p.q<=1099511627776
theorem Bf {x:ay} (h:x.ok=true) (j:Nat):-1073741824<=x.sh j/\x.sh j<=1073741824:=by
 simp only [ay.ok,cr] at h;have hs:=h.1.1.1.1.1.1;simp only [ay.Li,List.all_eq_true,List.mem_range,within,cr,decide_eq_true_eq] at hs;rcases Nat.lt_or_ge j 6 with hj | hj
 ·exact hs j hj
 ·have e:x.sh j=x.sh 5:=by
   rcases j with _ | _ | _ | _ | _ | _ | j<;>first | omega | rfl
  rw [e];exact hs 5 (by omega)
theorem l9 {x:ay} (h:x.ok=true):(1<=x.mult/\x.mult<=1024)/\(0<=x.add/\x.add<=1073741824):=by
 simp only [ay.ok,within,cr,decide_eq_true_eq] at h;omega
theorem fQ {a b A B:Int} (ha:-A<=a/\a<=A) (hb:-B<=b/\b<=B):-(A*B)<=a*b/\a*b<=A*B:=by
 have hA:0<=A:=by omega
 have hB:0<=B:=by omega
 have h:a.natAbs*b.natAbs<=A.natAbs*B.natAbs:=Nat.mul_le_mul (by omega) (by omega);have h1:(a*b).natAbs=a.natAbs*b.natAbs:=Int.natAbs_mul a b;have h2:(A*B).natAbs=A.natAbs*B.natAbs:=Int.natAbs_mul A B;have h3:0<=A*B:=Int.mul_nonneg hA hB;omega
theorem Dp {p:ff} (h:D8 p) (j:Nat):(-1125899906842624 <= -p.q*p.i.mult /\ -p.q*p.i.mult<=1125899906842624) /\ -1208925819614629174706176<=kn j p/\kn j p<=1208925819614629174706176:=by
 obtain ⟨h1,h2,h3⟩:=h;obtain ⟨⟨m1,m2⟩,-⟩:=l9 h1;have s:=Bf h1 j;have r1:=fQ (a:=-p.q) (b:=p.i.mult) (A:=1099511627776) (B:=1024) (by omega) (by omega);have r1:-1125899906842624 <= -p.q*p.i.mult /\ -p.q*p.i.mult<=1125899906842624:=r1;have r2:=fQ (a:=-p.q*p.i.mult) (b:=p.i.sh j) (A:=1125899906842624) (B:=1073741824) r1 s;exact ⟨r1,r2⟩
theorem FF {p:ff} (h:D8 p):-1208925819614629174706176<=wC p/\wC p<=1208925819614629174706176:=by
 obtain ⟨h1,h2,h3⟩:=h;obtain ⟨-,m1,m2⟩:=l9 h1;have r1:=fQ (a:=max p.q (-p.q)) (b:=p.i.add) (A:=1099511627776) (B:=1099511627776) (by omega) (by omega);exact r1
theorem sI {l:List Int} {B:Int} (h:∀ n∈l,-B<=n/\n<=B):-(B*l.length)<=az l/\az l<=B*l.length:=by
 induction l with
 | nil=>simp [az]
 | cons x r ih =>
  have h1:=h x (by simp);have h2:=ih fun n hn=>h n (by simp [hn])
  have e:B*((x :: r).length:Int)=B*(r.length:Int)+B:=by
   have:(((x :: r).length:Nat):Int)=(r.length:Int)+1:=by simp
   rw [this,Int.mul_add,Int.mul_one]
  rw [e];simp only [az];omega
theorem rO {B x:Int} (h:-B<=x/\x<=B) (hB:B<=85070591730234615865843651857942052864):qI x=true:=by
 simp only [qI,cr,decide_eq_true_eq];omega
theorem Qb {l:List ff} (h:∀ p∈l,D8 p) (j:Nat) (hl:l.length < 2 ^ 30):(∀ n∈l.map (kn j),qI n=true)/\qI (gf l j)=true:=by
 have h1:∀ n∈l.map (kn j),-1208925819614629174706176<=n/\n<=1208925819614629174706176:=by
  intro n hn;obtain ⟨p,hp,rfl⟩:=List.mem_map.1 hn;exact (Dp (h p hp) j).2
 refine ⟨fun n hn=>rO (h1 n hn) (by omega),?_⟩;have h2:=sI (B:=1208925819614629174706176) h1;simp only [aJ] at h2;refine rO (B:=1208925819614629174706176*(l.length:Int)) h2 (by omega)
def fY (l:List ff) (i:Nat) (j:Nat):D:=.int .i64 (if j < i then gf l j else 0)
def cY (l:List ff) (i:Nat):List D:=[fY l i 0,fY l i 1,fY l i 2,fY l i 3,fY l i 4,fY l i 5]
theorem Dv (l:List ff) {i:Nat} (h:i < 6):lD (cY l i) (i*1) [.int .i64 (gf l i)]=cY l (i+1):=by
 rcases i with _ | _ | _ | _ | _ | _ | i<;>first | omega | simp [cY,fY,lD]
theorem jy (l:List ff):cY l 0=[.int .i64 0,.int .i64 0,.int .i64 0,.int .i64 0,.int .i64 0,.int .i64 0]:=by simp [cY,fY]
def ir (l:List ff):Bool:=(List.range 6).any fun j=>!bL (gf l j)
def nX (r:aq) (w c:Int) (qs:List aB):Int:=if F8 r qs=0 then (if ir (jE r w c qs) then 1 else 0) else F8 r qs
def tC (r:aq) (w c:Int) (qs:List aB):List D:=if nX r w c qs=0 then cY (jE r w c qs) 6 else cY [] 0
theorem Ms {A:Type} {no:A->Int} {n:Int} {z:A}:∀ {xs:List A},0<=iJ no n xs->fX no n z xs∈xs/\no (fX no n z xs)=n
 | [],h=>by simp [iJ] at h
 | x :: r,h=>by
  simp only [iJ] at h;simp only [fX];split at h
  ·rename_i h1;rw [if_pos h1];exact ⟨by simp,h1⟩
  ·rename_i h1;rw [if_neg h1];split at h
   ·omega
   ·have:=Ms (no:=no) (n:=n) (z:=z) (xs:=r) (by omega);exact ⟨List.mem_cons_of_mem _ this.1,this.2⟩
theorem qL {A:Type} {no:A->Int} {ok:A->Bool} {xs:List A} (h:gU no ok xs=true):∀ x∈xs,ok x=true:=by
 intro x hx;obtain ⟨i,hi,rfl⟩:=List.mem_iff_getElem.1 hx;have:=List.all_eq_true.1 h i (List.mem_range.2 hi);rcases Nat.eq_zero_or_pos i with rfl | hp
 ·rwa [gr no ok xs hi (by omega)] at this
 ·rw [gw no ok xs hi hp,cr] at this;exact this.1
theorem vN {r:aq} (h:r.okB=true) {n:Int} (hi:br r n=true):(bf r n).ok=true:=by
 simp only [aq.okB,cr] at h;exact qL h.1.2 _ (Ms (by simpa [br] using hi)).1
theorem Aq {r:aq} {w c:Int} {qs:List aB} (h:F8 r qs=0):∀ p∈jE r w c qs,D8 p:=by
 have hk:r.okB=true/\qs.all oA=true:=by
  unfold F8 at h;split at h
  ·rename_i h1;split at h
   ·rename_i h2;exact ⟨h1,h2⟩
   ·cases h
  ·cases h
 intro p hp;simp only [jE,List.mem_map,List.mem_filter] at hp;obtain ⟨x,⟨hx,hh⟩,rfl⟩:=hp;have hq:=List.all_eq_true.1 hk.2 x hx;simp only [oA,cr,Bool.not_eq_true',decide_eq_false_iff_not] at hq;refine ⟨?_,by simp only;omega,by simp only;omega⟩;simp only [Ge,cr] at hh;exact vN hk.1 hh.1
theorem Yv (p:ff) {i:Nat} (h:i < 6):(List.drop (6+i*1) p.cells).headD .undef=.int .i64 (p.i.sh i):=by
 rcases i with _ | _ | _ | _ | _ | _ | i<;>first | rfl | omega
theorem LX (r:aq) (w c:Int) (qs:List aB) (hr:r.small) (hq:qs.length < 2 ^ 30):Abs.Spec Tryz.prog 74 [] [.agg r.cells,.int .i64 w,.int .i64 c,.sl 4 (qs.map aB.cells)] [] (.bI [.agg (tC r w c qs),.int .i64 (nX r w c qs)]):=by
 have hp:=Dq r w c qs hr hq;simp only [aq.cells] at hp |-;refine bu 77 4 [.cell 8 84,.tmp 9] mixed Tryz.func74 ?_;simp only [go_sem,seval];refine aa.gen [] [] false (by simp) ?_;simp only [go_sem,seval];refine aU.intro hp ?_
 by_cases hE:F8 r qs=0
 case neg =>
  have b1:(F8 r qs != 0)=true:=by simpa using hE
  have e1:nX r w c qs=F8 r qs:=by simp [nX,hE]
  have e2:tC r w c qs=cY [] 0:=by simp [tC,e1,hE]
  rw [e1,e2,jy];simp only [go_sem,seval,b1]
 have hpo:=Aq (w:=w) (c:=c) hE;have hpl:=rT r w c qs;have e1:SY r w c qs=jE r w c qs:=by simp [SY,hE]
 have e2:nX r w c qs=if ir (jE r w c qs) then 1 else 0:=by simp [nX,hE]
 simp only [tC,e2,e1];clear e1 e2;obtain ⟨l,hl⟩:=aH (jE r w c qs);rw [<- hl] at hpo hpl |-;clear hp hl;have hz:=jy l;simp only [go_sem,seval,hE];refine aC.walk (S:=Unit) 6 [8,10,11] [144,400] (fun i _=>[(31,.int .i64 i)]) (fun i _=>[(176,.box (cY l i))]) (fun i _=>∀ j < i,bL (gf l j)=true) () (by intros;omega) ?_ ?_ ?_
 ·simp only [go_sem,seval,hz]<;>simp
 ·intro j _ hj hdj hwj hI;have hdj:decide ((j:Int) < 6)=true:=hdj;have hall:=Qb hpo j (by omega);have hset:=Dv l hj;obtain ⟨B,hB⟩:=aH (cY l j);have hBl:B.length=6:=by rw [hB];rfl
  have hleaf1:∀ d∈cY l (j+1),oP d=true:=by simp [cY,fY,oP]
  have hleaf:∀ d∈B,oP d=true:=by rw [hB];simp [cY,fY,oP]
  rw [<- hB] at hset |-;simp only [go_sem,seval,hdj,aJ];refine aC.walk (S:=Unit) l.length [8,10,11,13,31,34,35] [144,176,400] (fun i _=>[(36,.int .i64 i),(14,.ref 896)]) (fun i _=>[(896,.own 2 (kD ((l.take i).map (kn j))))]) (fun i _=>True) () trivial ?_ ?_ ?_
  ·simp only [go_sem,seval]<;>simp [kD,fq hleaf,jY hleaf]
  ·intro i _ hi hdi hwi _;have hm:=aG (c:=ff.cells) l hi;have hpi:=hpo l[i] (List.getElem_mem hi);obtain ⟨p,hpe⟩:=aH (l[i])
   have hnext:kD ((l.take (i+1)).map (kn j))=kD ((l.take i).map (kn j))++[wd (kn j p)]:=by
    rw [List.take_succ_eq_append_getElem hi,hpe];simp only [kD,List.map_append,List.map_cons,List.map_nil]
   rw [<- hpe] at hm hpi;obtain ⟨r1,r2⟩:=Dp hpi j;obtain ⟨k1,k2,k3⟩:=hpi;have hsr:=Bf k1 j;have w1:IntKind.wrap .i64 (0-p.q) = -p.q:=by rw [bn (by omega) (by omega)];omega
   have w2:IntKind.wrap .i64 (-p.q*p.i.mult) = -p.q*p.i.mult:=bn (by omega) (by omega);have ht:=yj (-p.q*p.i.mult) (p.i.sh j) (by omega) (by omega);have hsa:=Yv p hj;have hlen:(kD ((l.take i).map (kn j))).length=i:=by simp [kD];omega
   simp only [ff.cells] at hm hsa;simp only [go_sem,seval,hdi,hm,w1,w2,hsa];(with_reducible and_intros)<;>first|exact .dq|omega|skip
   refine aa.pure ht ?_;simp only [go_sem,seval,hwi,hlen];(with_reducible and_intros)<;>first|exact .dq|omega|skip
   refine ah.step () hi trivial ?_;simp only [go_sem,seval,hnext,kn]<;>simp [wd,fq hleaf,jY hleaf]
  ·intro _ hdx _;have hs:=sn (l.map (kn j)) (by simp;omega) hall.1;have hI2:=sM (gf l j);have e:az (l.map (kn j))=gf l j:=rfl;rw [e,hall.2,if_pos rfl,if_pos rfl] at hs;obtain ⟨S,hS⟩:=aH (gf l j);rw [<- hS] at hs hI2 hset
   have hgood:bL S=true->∀ k < j+1,bL (gf l k)=true:=fun hx k hk=>by
    rcases Nat.lt_or_ge k j with h | h
    ·exact hI k h
    ·obtain rfl:k=j:=by omega
     rw [<- hS];exact hx
   have hbad:bL S=false->ir l=true:=fun hx=>by
    simp only [ir,List.any_eq_true,List.mem_range];exact ⟨j,hj,by rw [<- hS,hx];rfl⟩
   simp only [wd] at hs hI2;simp only [go_sem,seval,hdx,List.take_length];refine aa.gen [] [] true (by simp) ?_;simp only [go_sem,seval];refine aU.intro hs ?_;simp only [go_sem,seval];refine aa.pure hI2 ?_;cases hi:bL S
   ·have hb:=hbad hi;simp only [go_sem,seval,hi,hb,cY,fY];(with_reducible and_intros)<;>first|exact .dq|omega|skip
   ·simp only [go_sem,seval] at hset;simp only [go_sem,seval,hi,hset,hwj];(with_reducible and_intros)<;>first|exact .dq|omega|skip
    refine ah.step () hj (hgood hi) ?_;simp only [go_sem,seval];exact fq hleaf1
 ·intro _ hdx hI;have hdx:decide ((6:Int) < 6)=false:=hdx
  have hb:ir l=false:=by
   simp only [ir,List.any_eq_false,List.mem_range];intro k hk;simp [hI k hk]
  simp only [go_sem,seval,hdx,hb,cY,fY]
def pR (f:Nat->Int):Nat->Int
 | 0=>0
 | i+1=>max (pR f i) (f i)
theorem Db {f:Nat->Int} (n:Nat) (h:∀ j < n,bL (f j)=true):0<=pR f n/\pR f n<=4611686018427387904:=by
 induction n with
 | zero=>simp [pR]
 | succ n ih =>
  have h1:=ih fun j hj=>h j (by omega)
  have h2:=cg.1 (h n (by omega));simp only [pR];omega
def BM (l:List ff):Int:=az (pR (gf l) 6 :: l.map wC)
def pG (r:aq) (w c:Int) (qs:List aB):Int:=if nX r w c qs=0 then (if bL (BM (jE r w c qs)) then 0 else 1) else nX r w c qs
def pI (r:aq) (w c:Int) (qs:List aB):Int:=if nX r w c qs=0 then (if bL (BM (jE r w c qs)) then BM (jE r w c qs) else 0) else 0
theorem Pj (f:Nat->Int) {i:Nat} (h:i < 6):(List.drop (i*1) [D.int .i64 (f 0),D.int .i64 (f 1),D.int .i64 (f 2),D.int .i64 (f 3),D.int .i64 (f 4),D.int .i64 (f 5)]).headD .undef=.int .i64 (f i):=by
 rcases i with _ | _ | _ | _ | _ | _ | i<;>first | rfl | omega
theorem Iy {r:aq} {w c:Int} {qs:List aB} (h:nX r w c qs=0):F8 r qs=0/\ir (jE r w c qs)=false:=by
 unfold nX at h;split at h
 ·rename_i h1;refine ⟨h1,?_⟩;cases hb:ir (jE r w c qs)
  ·rfl
  ·rw [hb] at h;cases h
 ·rename_i h1;exact (h1 h).elim
theorem Fw {l:List ff} (h:ir l=false):∀ j < 6,bL (gf l j)=true:=by
 intro j hj;simp only [ir,List.any_eq_false,List.mem_range] at h;simpa using h j hj
theorem CO (r:aq) (w c:Int) (qs:List aB) (hr:r.small) (hq:qs.length < 2 ^ 30):Abs.Spec Tryz.prog 37 [] [.agg r.cells,.int .i64 w,.int .i64 c,.sl 4 (qs.map aB.cells)] [] (.bI [.int .i64 (pI r w c qs),.int .i64 (pG r w c qs)]):=by
 have hp:=Dq r w c qs hr hq;have hL:=LX r w c qs hr hq;simp only [aq.cells] at hp hL |-;refine bu 83 4 [.tmp 8,.tmp 9] mixed Tryz.func37 ?_;simp only [go_sem,seval];refine aa.pure hL ?_
 by_cases hE:nX r w c qs=0
 case neg =>
  have b1:(nX r w c qs != 0)=true:=by simpa using hE
  have e1:pG r w c qs=nX r w c qs:=by simp [pG,hE]
  have e2:pI r w c qs=0:=by simp [pI,hE]
  have e3:tC r w c qs=cY [] 0:=by simp [tC,hE]
  rw [e1,e2,e3,jy];simp only [go_sem,seval,b1]
 obtain ⟨hpc,hbad⟩:=Iy hE;have hpo:=Aq (w:=w) (c:=c) hpc;have hpl:=rT r w c qs;have e1:SY r w c qs=jE r w c qs:=by simp [SY,hpc]
 have e2:pG r w c qs=if bL (BM (jE r w c qs)) then 0 else 1:=by simp [pG,hE]
 have e3:pI r w c qs=if bL (BM (jE r w c qs)) then BM (jE r w c qs) else 0:=by simp [pI,hE]
 have e4:tC r w c qs=[.int .i64 (gf (jE r w c qs) 0),.int .i64 (gf (jE r w c qs) 1),.int .i64 (gf (jE r w c qs) 2),.int .i64 (gf (jE r w c qs) 3),.int .i64 (gf (jE r w c qs) 4),.int .i64 (gf (jE r w c qs) 5)]:=by simp [tC,hE,cY,fY]
 rw [e1] at hp;rw [e2,e3,e4];clear e1 e2 e3 e4 hL;obtain ⟨l,hl⟩:=aH (jE r w c qs);rw [<- hl] at hpo hpl hp hbad |-;clear hl;have hin:=Fw hbad;obtain ⟨L,hLd⟩:=aH (gf l);obtain ⟨T,hT⟩:=aH (BM l);rw [<- hT];simp only [BM] at hT;rw [<- hLd] at hin hT |-;simp only [go_sem,seval,hE];refine aC.walk (S:=Unit) 6 [1,2,3,4,32] [80,176] (fun i _=>[(33,.int .i64 i),(12,.int .i64 (pR L i))]) (fun i _=>[]) (fun i _=>True) () trivial ?_ ?_ ?_
 ·simp only [go_sem,seval]<;>simp [pR]
 ·intro i _ hi hdi hwi _;have hdi:decide ((i:Int) < 6)=true:=hdi;have hsx:=Pj L hi;simp only [go_sem,seval,hdi,hsx,hwi];(with_reducible and_intros)<;>first|exact .dq|omega|skip
  refine ah.step () hi trivial ?_;simp only [go_sem,seval,pR]
 ·intro _ hdx _;have hdx:decide ((6:Int) < 6)=false:=hdx;have hmr:=Db (f:=L) 6 hin;obtain ⟨M,hM⟩:=aH (pR L 6);rw [<- hM] at hmr hT |-;have hO:=tJ M (by omega);simp only [wd] at hO;simp only [go_sem,seval,hdx];refine aa.pure hO ?_;simp only [go_sem,seval];refine aa.gen [] [] false (by simp) ?_;simp only [go_sem,seval];refine aU.intro hp ?_;simp only [go_sem,seval,hpc,aJ];refine aC.walk (S:=Unit) l.length [51,52] [784,848] (fun i _=>[(53,.int .i64 i),(15,.ref 1120)]) (fun i _=>[(1120,.own 2 (kD (M :: (l.take i).map wC)))]) (fun i _=>True) () trivial ?_ ?_ ?_
  ·simp only [go_sem,seval]<;>simp [kD,wd]
  ·intro i _ hi hdi hwi _;have hm:=aG (c:=ff.cells) l hi;have hpi:=hpo l[i] (List.getElem_mem hi);obtain ⟨p,hpe⟩:=aH (l[i])
   have hnext:kD (M :: (l.take (i+1)).map wC)=kD (M :: (l.take i).map wC)++[wd (wC p)]:=by
    rw [List.take_succ_eq_append_getElem hi,List.map_append,hpe];simp only [kD,List.map_append,List.map_cons,List.map_nil,List.cons_append]
   rw [<- hpe] at hm hpi;obtain ⟨k1,k2,k3⟩:=hpi;obtain ⟨-,g1,g2⟩:=l9 k1;have w1:IntKind.wrap .i64 (0-p.q) = -p.q:=by rw [bn (by omega) (by omega)];omega
   obtain ⟨x,hx⟩:=aH (max p.q (-p.q));have hxr:-1099511627776<=x/\x<=1099511627776:=by omega
   have ht:=yj x p.i.add (by omega) (by omega);have hlen:(kD (M :: (l.take i).map wC)).length=i+1:=by simp [kD];omega
   have ha:wC p=x*p.i.add:=by rw [hx];rfl
   simp only [ff.cells] at hm;simp only [go_sem,seval,hdi,hm,w1];rw [<- hx];(with_reducible and_intros)<;>first|exact .dq|omega|skip
   refine aa.pure ht ?_;simp only [go_sem,seval,hwi,hlen];(with_reducible and_intros)<;>first|exact .dq|omega|skip
   refine ah.step () hi trivial ?_;simp only [go_sem,seval,hnext,ha]<;>simp [wd]
  ·intro _ hdx _
   have hb:∀ n∈M :: l.map wC,-1208925819614629174706176<=n/\n<=1208925819614629174706176:=by
    intro n hn;rcases List.mem_cons.1 hn with rfl | hn
    ·omega
    ·obtain ⟨p,hp,rfl⟩:=List.mem_map.1 hn;exact FF (hpo p hp)
   have hs:=sn (M :: l.map wC) (by simp;omega) (fun n hn=>rO (hb n hn) (by omega));have h2:=sI (B:=1208925819614629174706176) hb;rw [<- hT] at hs h2;simp only [List.length_cons,aJ] at h2;have hin2:qI T=true:=rO (B:=1208925819614629174706176*((l.length+1:Nat):Int)) h2 (by omega);have hI2:=sM T;rw [hin2,if_pos rfl,if_pos rfl] at hs;simp only [wd] at hs hI2;simp only [go_sem,seval,hdx,List.take_length];refine aa.gen [] [] true (by simp) ?_;simp only [go_sem,seval];refine aU.intro hs ?_;simp only [go_sem,seval];refine aa.pure hI2 ?_;simp only [go_sem,seval]
theorem ug (x:ak):Abs.Spec Tryz.prog 167 [] [.agg x.cells] [] (.bool x.ok):=by
 have h1:=fO x.no;have h2:=bA x.state 1 3;have h3:=bA x.need 0 4611686018427387904;simp only [ak.cells];refine bu 16 1 [.tmp 2] mixed Tryz.func167 ?_;simp only [go_sem,seval]
 repeat' with_reducible first|apply And.intro|exact .dq|refine aa.pure (by assumption) ?_|refine aa.pure (h1) ?_|refine aa.pure (h2) ?_|refine aa.pure (h3) ?_|refine .aT (fun h=>?_) fun h=>?_|refine .aO (fun h=>?_) fun h=>?_|refine .aS (fun h=>?_) fun h=>?_|refine .split (fun h=>?_) fun h=>?_|refine .id ?_|refine ah.next (by omega) ?_ ?_|exact trivial|simp only [*,go_sem,seval]
 all_goals first
  | (simp_all [ak.ok];done)
  | (rw [Bool.eq_iff_iff];simp_all [ak.ok,within,bL];omega)
theorem sQ (x:ay):Abs.Spec Tryz.prog 168 [] [.agg x.cells] [] (.bool x.ok):=by
 have h1:=bA x.no 1 8;have h2:=fK x.cur;have h3:=bA x.mult 1 1024;have h4:=bA x.add 0 1073741824;have h5:=bA x.set 0 1073741824;have h6:=bA x.aX 0 1073741824;simp only [ay.cells];refine bu 42 1 [.tmp 2] mixed Tryz.func168 ?_;simp only [go_sem,seval];refine aC.walk (S:=Unit) 6 [1] [32] (fun i _=>[(3,.int .i64 i)]) (fun i _=>[]) (fun i _=>∀ j < i,within (x.sh j) (-1073741824) 1073741824=true) () (by intros;omega) ?_ ?_ ?_
 ·simp only [go_sem,seval]<;>simp
 ·intro i _ hi hdi hw hI;have hdi:decide ((i:Int) < 6)=true:=hdi;have hix:=Pj x.sh hi;have e6:[D.int .i64 (x.sh 0),D.int .i64 (x.sh 1),D.int .i64 (x.sh 2),D.int .i64 (x.sh 3),D.int .i64 (x.sh 4),D.int .i64 (x.sh 5)]=[D.int .i64 x.s0,D.int .i64 x.s1,D.int .i64 x.s2,D.int .i64 x.s3,D.int .i64 x.s4,D.int .i64 x.s5]:=rfl;rw [e6] at hix
  have hix2:(List.drop (6+i*1) x.cells).headD .undef=.int .i64 (x.sh i):=by
   rcases i with _ | _ | _ | _ | _ | _ | i<;>first | rfl | omega
  simp only [ay.cells] at hix2;have hv:=bA (x.sh i) (-1073741824) 1073741824;simp only [go_sem,seval,hdi,hix,hix2];(with_reducible and_intros)<;>first|exact .dq|omega|skip
  refine aa.pure hv ?_;cases hb:within (x.sh i) (-1073741824) 1073741824
  ·have e1:x.Li=false:=by
    cases hc:x.Li
    ·rfl
    ·rw [ay.Li,List.all_eq_true] at hc;rw [hc i (List.mem_range.2 hi)] at hb;cases hb
   have e2:x.ok=false:=by simp [ay.ok,e1]
   simp only [go_sem,seval,e2]
  ·simp only [go_sem,seval,hw];refine ah.step () hi ?_ ?_
   ·intro j hj;rcases Nat.lt_or_ge j i with h | h
    ·exact hI j h
    ·obtain rfl:j=i:=by omega
     exact hb
   ·simp only [go_sem,seval]
 ·intro _ hdx hI;have hdx:decide ((6:Int) < 6)=false:=hdx;have hs:x.Li=true:=List.all_eq_true.2 fun j hj=>hI j (List.mem_range.1 hj)
  have e:x.ok=(within x.no 1 8&&within x.cur 0 2&&within x.mult 1 1024&&within x.add 0 1073741824&&within x.set 0 1073741824&&within x.aX 0 1073741824):=by simp [ay.ok,hs]
  rw [e];clear hI e hs
  repeat' with_reducible first|apply And.intro|exact .dq|refine aa.pure (by assumption) ?_|refine aa.pure (h1) ?_|refine aa.pure (h2) ?_|refine aa.pure (h3) ?_|refine aa.pure (h4) ?_|refine aa.pure (h5) ?_|refine aa.pure (h6) ?_|refine .aT (fun h=>?_) fun h=>?_|refine .aO (fun h=>?_) fun h=>?_|refine .aS (fun h=>?_) fun h=>?_|refine .split (fun h=>?_) fun h=>?_|refine .id ?_|refine ah.next (by omega) ?_ ?_|exact trivial|simp only [*,go_sem,seval]
  all_goals (simp_all;done)
section
variable {A:Type} {no:A->Int} {ok:A->Bool} {xs:List A}
theorem Fz {i:Nat} (h:i < xs.length) (hn:cw no ok xs i=false):gU no ok xs=false:=by
 cases hc:gU no ok xs
 ·rfl
 ·rw [List.all_eq_true.1 hc i (List.mem_range.2 h)] at hn;cases hn
theorem vW (h:∀ i < xs.length,cw no ok xs i=true):gU no ok xs=true:=List.all_eq_true.2 fun i hi=>h i (List.mem_range.1 hi)
theorem zl {i:Nat} (hI:∀ j < i,cw no ok xs j=true) (h0:cw no ok xs i=true):∀ k < i+1,cw no ok xs k=true:=fun k hk=>by
 rcases Nat.lt_or_ge k i with h | h
 ·exact hI k h
 ·obtain rfl:k=i:=by omega
  exact h0
end
theorem dL (r:aq) (hl:r.small):Abs.Spec Tryz.prog 86 [] [.agg r.cells] [] (.bool r.okB):=by
 obtain ⟨l1,l2,l3⟩:=hl;simp only [aq.cells];refine bu 108 1 [.tmp 2] mixed Tryz.func86 ?_;simp only [go_sem,seval,aJ];refine aC.count r.ms.length [1] [32] (fun i=>[(3,.int .i64 i)]) (fun i=>[]) (fun i=>∀ j < i,cw ak.no ak.ok r.ms j=true) (by simp) ?_ ?_
 ·simp only [go_sem,seval]<;>simp
 intro i hi hI;simp only [go_sem,seval,aJ];refine bH.aO (fun h=>?_) (fun h=>?_)
 ·have hi':i < r.ms.length:=by omega
  have hw:IntKind.wrap .i64 ((i:Int)+1)=((i+1:Nat):Int):=by rw [bn (by omega) (by omega)];omega
  have hm:=aG (c:=ak.cells) r.ms hi';have h1:=ug r.ms[i];have e0:=zl (i:=i) hI;have e1:cw ak.no ak.ok r.ms i=false->r.okB=false:=fun hx=>by simp [aq.okB,Fz hi' hx]
  have hlt:(i:Int) < (r.ms.length:Int):=by omega
  simp only [ak.cells] at hm h1;rcases Nat.eq_zero_or_pos i with rfl | hpos
  ·have hk:=gr ak.no ak.ok r.ms hi' (by omega);simp only [go_sem,seval,hm,aJ]
   repeat' with_reducible first|apply And.intro|exact .dq|refine aa.pure (by assumption) ?_|refine aa.pure (h1) ?_|refine .aT (fun h=>?_) fun h=>?_|refine .aO (fun h=>?_) fun h=>?_|refine .aS (fun h=>?_) fun h=>?_|refine .split (fun h=>?_) fun h=>?_|refine .id ?_|refine ah.next (by omega) ?_ ?_|exact trivial|simp only [*,go_sem,seval]
   all_goals first
    | omega
    | rfl
    | (refine e0 ?_;clear e0 e1;rw [hk];clear hk;simp_all;done)
    | (rw [e1 ?_];clear e0 e1;rw [hk];clear hk;simp_all;done)
  ·obtain ⟨j,rfl⟩:∃ j,i=j+1:=⟨i-1,by omega⟩
   have hj:j < r.ms.length:=by omega
   have hw1:IntKind.wrap .i64 (((j+1:Nat):Int)-1)=(j:Int):=by rw [bn (by omega) (by omega)];omega
   have hk:=gw ak.no ak.ok r.ms hi' (by omega);have hmj:=aG (c:=ak.cells) r.ms hj;have hlj:(j:Int) < (r.ms.length:Int):=by omega
   simp only [ak.cells] at hmj;simp only [Nat.add_sub_cancel] at hk;simp only [go_sem,seval,hm,aJ]
   repeat' with_reducible first|apply And.intro|exact .dq|refine aa.pure (by assumption) ?_|refine aa.pure (h1) ?_|refine .aT (fun h=>?_) fun h=>?_|refine .aO (fun h=>?_) fun h=>?_|refine .aS (fun h=>?_) fun h=>?_|refine .split (fun h=>?_) fun h=>?_|refine .id ?_|refine ah.next (by omega) ?_ ?_|exact trivial|simp only [*,go_sem,seval,hmj,aJ]
   all_goals first
    | omega
    | rfl
    | (refine e0 ?_;clear e0 e1;rw [hk];clear hk;simp_all;done)
    | (refine e0 ?_;clear e0 e1;rw [hk];clear hk;simp_all;omega)
    | (rw [e1 ?_];clear e0 e1;rw [hk];clear hk;simp_all;done)
    | (rw [e1 ?_];clear e0 e1;rw [hk];clear hk;simp_all;omega)
 have hR1:=vW (fun j (hj:j < r.ms.length)=>hI j (by omega));clear hI;simp only [go_sem,seval,aJ];refine aC.count r.ns.length [1] [32] (fun i=>[(4,.int .i64 i)]) (fun i=>[]) (fun i=>∀ j < i,cw ay.no ay.ok r.ns j=true) (by simp) ?_ ?_
 ·simp only [go_sem,seval]<;>simp
 intro i hi hI;simp only [go_sem,seval,aJ];refine bH.aO (fun h=>?_) (fun h=>?_)
 ·have hi':i < r.ns.length:=by omega
  have hw:IntKind.wrap .i64 ((i:Int)+1)=((i+1:Nat):Int):=by rw [bn (by omega) (by omega)];omega
  have hm:=aG (c:=ay.cells) r.ns hi';have h1:=sQ r.ns[i];have e0:=zl (i:=i) hI;have e1:cw ay.no ay.ok r.ns i=false->r.okB=false:=fun hx=>by simp [aq.okB,Fz hi' hx]
  have hlt:(i:Int) < (r.ns.length:Int):=by omega
  simp only [ay.cells] at hm h1;rcases Nat.eq_zero_or_pos i with rfl | hpos
  ·have hk:=gr ay.no ay.ok r.ns hi' (by omega);simp only [go_sem,seval,hm,aJ]
   repeat' with_reducible first|apply And.intro|exact .dq|refine aa.pure (by assumption) ?_|refine aa.pure (h1) ?_|refine .aT (fun h=>?_) fun h=>?_|refine .aO (fun h=>?_) fun h=>?_|refine .aS (fun h=>?_) fun h=>?_|refine .split (fun h=>?_) fun h=>?_|refine .id ?_|refine ah.next (by omega) ?_ ?_|exact trivial|simp only [*,go_sem,seval]
   all_goals first
    | omega
    | rfl
    | (refine e0 ?_;clear e0 e1;rw [hk];clear hk;simp_all;done)
    | (rw [e1 ?_];clear e0 e1;rw [hk];clear hk;simp_all;done)
  ·obtain ⟨j,rfl⟩:∃ j,i=j+1:=⟨i-1,by omega⟩
   have hj:j < r.ns.length:=by omega
   have hw1:IntKind.wrap .i64 (((j+1:Nat):Int)-1)=(j:Int):=by rw [bn (by omega) (by omega)];omega
   have hk:=gw ay.no ay.ok r.ns hi' (by omega);have hmj:=aG (c:=ay.cells) r.ns hj;have hlj:(j:Int) < (r.ns.length:Int):=by omega
   simp only [ay.cells] at hmj;simp only [Nat.add_sub_cancel] at hk;simp only [go_sem,seval,hm,aJ]
   repeat' with_reducible first|apply And.intro|exact .dq|refine aa.pure (by assumption) ?_|refine aa.pure (h1) ?_|refine .aT (fun h=>?_) fun h=>?_|refine .aO (fun h=>?_) fun h=>?_|refine .aS (fun h=>?_) fun h=>?_|refine .split (fun h=>?_) fun h=>?_|refine .id ?_|refine ah.next (by omega) ?_ ?_|exact trivial|simp only [*,go_sem,seval,hmj,aJ]
   all_goals first
    | omega
    | rfl
    | (refine e0 ?_;clear e0 e1;rw [hk];clear hk;simp_all;done)
    | (refine e0 ?_;clear e0 e1;rw [hk];clear hk;simp_all;omega)
    | (rw [e1 ?_];clear e0 e1;rw [hk];clear hk;simp_all;done)
    | (rw [e1 ?_];clear e0 e1;rw [hk];clear hk;simp_all;omega)
 have hR2:=vW (fun j (hj:j < r.ns.length)=>hI j (by omega));clear hI;simp only [go_sem,seval,aJ];refine aC.count r.xs.length [1] [32] (fun i=>[(5,.int .i64 i)]) (fun i=>[]) (fun i=>∀ j < i,cw au.a au.ok r.xs j=true) (by simp) ?_ ?_
 ·simp only [go_sem,seval]<;>simp
 intro i hi hI;simp only [go_sem,seval,aJ];refine bH.aO (fun h=>?_) (fun h=>?_)
 ·have hi':i < r.xs.length:=by omega
  have hw:IntKind.wrap .i64 ((i:Int)+1)=((i+1:Nat):Int):=by rw [bn (by omega) (by omega)];omega
  have hm:=aG (c:=au.cells) r.xs hi';have h1:=qc r.xs[i];have e0:=zl (i:=i) hI;have e1:cw au.a au.ok r.xs i=false->r.okB=false:=fun hx=>by simp [aq.okB,Fz hi' hx]
  have hlt:(i:Int) < (r.xs.length:Int):=by omega
  simp only [au.cells] at hm h1;rcases Nat.eq_zero_or_pos i with rfl | hpos
  ·have hk:=gr au.a au.ok r.xs hi' (by omega);simp only [go_sem,seval,hm,aJ]
   repeat' with_reducible first|apply And.intro|exact .dq|refine aa.pure (by assumption) ?_|refine aa.pure (h1) ?_|refine .aT (fun h=>?_) fun h=>?_|refine .aO (fun h=>?_) fun h=>?_|refine .aS (fun h=>?_) fun h=>?_|refine .split (fun h=>?_) fun h=>?_|refine .id ?_|refine ah.next (by omega) ?_ ?_|exact trivial|simp only [*,go_sem,seval]
   all_goals first
    | omega
    | rfl
    | (refine e0 ?_;clear e0 e1;rw [hk];clear hk;simp_all;done)
    | (rw [e1 ?_];clear e0 e1;rw [hk];clear hk;simp_all;done)
  ·obtain ⟨j,rfl⟩:∃ j,i=j+1:=⟨i-1,by omega⟩
   have hj:j < r.xs.length:=by omega
   have hw1:IntKind.wrap .i64 (((j+1:Nat):Int)-1)=(j:Int):=by rw [bn (by omega) (by omega)];omega
   have hk:=gw au.a au.ok r.xs hi' (by omega);have hmj:=aG (c:=au.cells) r.xs hj;have hlj:(j:Int) < (r.xs.length:Int):=by omega
   simp only [au.cells] at hmj;simp only [Nat.add_sub_cancel] at hk;simp only [go_sem,seval,hm,aJ]
   repeat' with_reducible first|apply And.intro|exact .dq|refine aa.pure (by assumption) ?_|refine aa.pure (h1) ?_|refine .aT (fun h=>?_) fun h=>?_|refine .aO (fun h=>?_) fun h=>?_|refine .aS (fun h=>?_) fun h=>?_|refine .split (fun h=>?_) fun h=>?_|refine .id ?_|refine ah.next (by omega) ?_ ?_|exact trivial|simp only [*,go_sem,seval,hmj,aJ]
   all_goals first
    | omega
    | rfl
    | (refine e0 ?_;clear e0 e1;rw [hk];clear hk;simp_all;done)
    | (refine e0 ?_;clear e0 e1;rw [hk];clear hk;simp_all;omega)
    | (rw [e1 ?_];clear e0 e1;rw [hk];clear hk;simp_all;done)
    | (rw [e1 ?_];clear e0 e1;rw [hk];clear hk;simp_all;omega)
 have hR3:=vW (fun j (hj:j < r.xs.length)=>hI j (by omega));clear hI;simp only [go_sem,seval,aJ];have e:r.okB=true:=by simp [aq.okB,hR1,hR2,hR3]
 rw [e]
theorem dz (r:aq) (n:Int) (hl:r.small):Abs.Spec Tryz.prog 43 [] [.agg r.cells,.int .i64 n] [] (.bI [.agg (bf r n).cells,.bool (br r n)]):=by
 obtain ⟨l1,l2,l3⟩:=hl;simp only [aq.cells];refine bu 28 2 [.cell 4 121,.tmp 5] mixed Tryz.func43 ?_;simp only [go_sem,seval,aJ];refine aC.walk (S:=Unit) r.ns.length [1,2,4] [48,80] (fun i _=>[(6,.int .i64 i)]) (fun i _=>[]) (fun i _=>∀ j (hj:j < r.ns.length),j < i->r.ns[j].no≠n) () (by intros;omega) ?_ ?_ ?_
 ·simp only [go_sem,seval]<;>simp
 ·intro i _ hi hdi hw hI;have hm:=aG (c:=ay.cells) r.ns hi;have hlt:(i:Int) < (r.ns.length:Int):=by omega
  simp only [ay.cells] at hm |-;simp only [go_sem,seval,aJ,hdi,hm];(with_reducible and_intros)<;>first|exact .dq|omega|skip
  cases hb:r.ns[i].no==n
  ·have hb2:r.ns[i].no≠n:=by simpa using hb
   simp only [go_sem,seval,hw];refine ah.step () hi ?_ ?_
   ·intro j hj hji;rcases Nat.lt_or_ge j i with h | h
    ·exact hI j hj h
    ·obtain rfl:j=i:=by omega
     exact hb2
   ·simp only [go_sem,seval]
  ·have hb2:r.ns[i].no=n:=by simpa using hb
   obtain ⟨g1,g2⟩:=jg (z:=ay.zero) hi hI hb2;have e1:bf r n=r.ns[i]:=g1;have e2:br r n=true:=by simp [br,g2]
   rw [e1,e2];simp only [go_sem,seval,hm,aJ];(with_reducible and_intros)<;>first|exact .dq|omega|skip
 ·intro _ hdx hI;obtain ⟨g1,g2⟩:=gK (z:=ay.zero) (fun j hj=>hI j hj hj);have e1:bf r n=ay.zero:=g1;have e2:br r n=false:=by simp [br,g2]
  rw [e1,e2];simp only [go_sem,seval,aJ,hdx,ay.cells,ay.zero]
end Go.Proofs.YtnkobepdbkmedaaGreatDoor
