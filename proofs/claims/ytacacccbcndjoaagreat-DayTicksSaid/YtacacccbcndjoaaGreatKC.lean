/- States, with all their rows, and what follows. No theorem of a claim. -/
import Derived.Test.YtacacccbcndjoaaGreatKB
import Derived.Test.YtacacccbcndjoaaGreatAbcOpen
import Derived.Test.YtacacccbcndjoaaGreatKA
set_option linter.unusedSimpArgs false
set_option linter.unusedVariables false
set_option maxHeartbeats 4000000
set_option maxRecDepth 16000
namespace Go.Proofs.YtacacccbcndjoaaGreat
open Go.Abs
def fy (n:Int):Prop:=-9223372036854775808<=n/\n<=9223372036854775807
structure aA where
 who:Int
 inst:Int
 aX:Int
 cost:Int
deriving DecidableEq
@[reducible] def aA.cells (x:aA):List D:=[.int .i64 x.who,.int .i64 x.inst,.int .i64 x.aX,.int .i64 x.cost]
def aA.dz (x:aA):Prop:=fy x.who/\fy x.inst/\fy x.aX/\fy x.cost
structure aL where
 no:Int
 fZ:Int
 dY:Int
 inst:Int
 aX:Int
 aR:Int
 off:Bool
deriving DecidableEq
@[reducible] def aL.cells (x:aL):List D:=[.int .i64 x.no,.int .i64 x.fZ,.int .i64 x.dY,.int .i64 x.inst,.int .i64 x.aX,.int .i64 x.aR,.bool x.off]
def aL.dz (x:aL):Prop:=fy x.no/\fy x.fZ/\fy x.dY/\fy x.inst/\fy x.aX/\fy x.aR
structure aN where
 who:Int
 cur:Int
 bX:Int
deriving DecidableEq
@[reducible] def aN.cells (x:aN):List D:=[.int .i64 x.who,.int .i64 x.cur,.int .i64 x.bX]
def aN.dz (x:aN):Prop:=fy x.who/\fy x.cur/\fy x.bX
structure au where
 who:Int
 cur:Int
 bX:Int
 till:Int
deriving DecidableEq
@[reducible] def au.cells (x:au):List D:=[.int .i64 x.who,.int .i64 x.cur,.int .i64 x.bX,.int .i64 x.till]
def au.dz (x:au):Prop:=fy x.who/\fy x.cur/\fy x.bX/\fy x.till
structure bp where
 who:Int
 inst:Int
 src:Int
 aX:Int
 aR:Int
deriving DecidableEq
@[reducible] def bp.cells (x:bp):List D:=[.int .i64 x.who,.int .i64 x.inst,.int .i64 x.src,.int .i64 x.aX,.int .i64 x.aR]
def bp.dz (x:bp):Prop:=fy x.who/\fy x.inst/\fy x.src/\fy x.aX/\fy x.aR
structure ck where
 cur:Int
 gh:Int
 c0:Int
 c1:Int
 c2:Int
 c3:Int
 c4:Int
 rest:Int
deriving DecidableEq
@[reducible] def ck.cells (x:ck):List D:=[.int .i64 x.cur,.int .i64 x.gh,.int .i64 x.c0,.int .i64 x.c1,.int .i64 x.c2,.int .i64 x.c3,.int .i64 x.c4,.int .i64 x.rest]
def ck.dz (x:ck):Prop:=fy x.cur/\fy x.gh/\fy x.c0/\fy x.c1/\fy x.c2/\fy x.c3/\fy x.c4/\fy x.rest
def ak.dz (x:ak):Prop:=fy x.no/\fy x.state/\fy x.need
def ay.dz (x:ay):Prop:=fy x.no/\fy x.cur/\fy x.mult/\fy x.add/\fy x.set/\fy x.aR/\fy x.s0/\fy x.s1/\fy x.s2/\fy x.s3/\fy x.s4/\fy x.s5
def av.dz (x:av):Prop:=fy x.a/\fy x.b/\fy x.c/\fy x.d
def bJ.dz (x:bJ):Prop:=fy x.kind/\fy x.who/\fy x.cur/\fy x.sum
def eW.dz (x:eW):Prop:=fy x.who/\fy x.bF/\fy x.units
structure aW where
 code:Int
 no:Int
 bX:Int
 Aa:List aN
 falls:List ck
deriving DecidableEq
@[reducible] def aW.cells (x:aW):List D:=[.int .i64 x.code,.int .i64 x.no,.int .i64 x.bX,.sl 3 (x.Aa.map aN.cells),.sl 8 (x.falls.map ck.cells)]
def aW.fits (x:aW):Prop:=24*x.Aa.length<=140737488355328/\64*x.falls.length<=140737488355328
def aW.dz (x:aW):Prop:=True/\True/\True/\True/\True/\x.fits
structure bu where
 client:Int
 seq:Int
 r:aW
deriving DecidableEq
@[reducible] def bu.cells (x:bu):List D:=[.int .i64 x.client,.int .i64 x.seq,.int .i64 x.r.code,.int .i64 x.r.no,.int .i64 x.r.bX,.sl 3 (x.r.Aa.map aN.cells),.sl 8 (x.r.falls.map ck.cells)]
def bu.dz (x:bu):Prop:=fy x.client/\fy x.seq/\x.r.dz
structure aG where
 next:Int
 ts:List aL
 qs:List aA
@[reducible] def aG.cells (b:aG):List D:=[.int .i64 b.next,.sl 7 (b.ts.map aL.cells),.sl 4 (b.qs.map aA.cells)]
structure af where
 now:Int
 day:Int
 phase:Int
 aj:aq
 book:aG
 bE:bn
 ps:List eW
 calls:List au
 aT:List bp
 aM:List bu
@[reducible] def af.cells (s:af):List D:=[.int .i64 s.now,.int .i64 s.day,.int .i64 s.phase,.sl 3 (s.aj.ms.map ak.cells),.sl 12 (s.aj.ns.map ay.cells),.sl 4 (s.aj.xs.map av.cells),.int .i64 s.book.next,.sl 7 (s.book.ts.map aL.cells),.sl 4 (s.book.qs.map aA.cells),
 .int .i64 s.bE.last,.sl 4 (s.bE.bs.map bJ.cells),.sl 3 (pl s.ps),.sl 4 (s.calls.map au.cells),.sl 5 (s.aT.map bp.cells),.sl 7 (s.aM.map bu.cells)]
structure af.dz (s:af):Prop where
 now:fy s.now
 day:fy s.day
 phase:fy s.phase
 ms:∀ x∈s.aj.ms,x.dz
 ns:∀ x∈s.aj.ns,x.dz
 xs:∀ x∈s.aj.xs,x.dz
 next:fy s.book.next
 ts:∀ x∈s.book.ts,x.dz
 qs:∀ x∈s.book.qs,x.dz
 last:fy s.bE.last
 bs:∀ x∈s.bE.bs,x.dz
 ps:∀ x∈s.ps,x.dz
 calls:∀ x∈s.calls,x.dz
 aT:∀ x∈s.aT,x.dz
 aM:∀ x∈s.aM,x.dz
def ke {A:Type} (ok:A->Bool) (lt:A->A->Bool) (xs:List A) (i:Nat):Bool:=
 match xs[i]? with
 | none=>true
 | some b=>ok b&&(match i with
  | 0=>true
  | j+1=>match xs[j]? with
   | some q=>lt q b
   | none=>true)
def lV {A:Type} (ok:A->Bool) (lt:A->A->Bool) (xs:List A):Bool:=(List.range xs.length).all (ke ok lt xs)
section
variable {A:Type} {ok:A->Bool} {lt:A->A->Bool} {xs:List A}
theorem gz (h:0 < xs.length):ke ok lt xs 0=ok xs[0]:=by simp [ke,h]
theorem fT {j:Nat} (h:j+1 < xs.length):ke ok lt xs (j+1)=(ok xs[j+1]&&lt (xs[j]'(by omega)) xs[j+1]):=by
 have h':j < xs.length:=by omega
 simp [ke,h,h']
theorem qX {i:Nat} (h:i < xs.length) (hn:ke ok lt xs i=false):lV ok lt xs=false:=by
 cases hc:lV ok lt xs
 ·rfl
 ·rw [List.all_eq_true.1 hc i (List.mem_range.2 h)] at hn;cases hn
theorem lY (h:∀ i < xs.length,ke ok lt xs i=true):lV ok lt xs=true:=List.all_eq_true.2 fun i hi=>h i (List.mem_range.1 hi)
theorem Ru (h:lV ok lt xs=true) {i:Nat} (hi:i < xs.length):ke ok lt xs i=true:=List.all_eq_true.1 h i (List.mem_range.2 hi)
theorem G9 (h:lV ok lt xs=true) {i:Nat} (hi:i < xs.length):ok xs[i]=true:=by
 have:=Ru h hi;cases i with
 | zero=>rwa [gz hi] at this
 | succ j=>rw [fT hi,cg] at this;exact this.1
theorem nr {i:Nat} (hI:∀ j < i,ke ok lt xs j=true) (h0:ke ok lt xs i=true):∀ k < i+1,ke ok lt xs k=true:=fun k hk=>by
 rcases Nat.lt_or_ge k i with h | h
 ·exact hI k h
 ·obtain rfl:k=i:=by omega
  exact h0
end
def ot (w n:Int):Bool:=within w 1 16&&within n 1 8
def DA (a b c d:Int):Bool:=decide (a < c)||(a==c&&decide (b < d))
theorem o8 (w n:Int):Abs.Spec Tryz.prog 105 [] [.agg [.int .i64 w,.int .i64 n]] [] (.bool (ot w n)):=by
 refine aU 21 1 [.tmp 2] mixed Tryz.func105 ?_;simp only [go_sem,seval]
 repeat' with_reducible first|apply And.intro|exact .dq|refine aa.pure (by assumption) ?_|refine .aH (fun h=>?_) fun h=>?_|refine .aF (fun h=>?_) fun h=>?_|refine .aK (fun h=>?_) fun h=>?_|refine .split (fun h=>?_) fun h=>?_|refine .id ?_|refine ah.next (by omega) ?_ ?_|exact trivial|simp only [*,go_sem,seval]
 all_goals (simp_all [ot,within];try omega)
theorem HO (a b c d:Int):Abs.Spec Tryz.prog 107 [] [.agg [.int .i64 a,.int .i64 b],.agg [.int .i64 c,.int .i64 d]] [] (.bool (DA a b c d)):=by
 refine aU 24 2 [.tmp 4] mixed Tryz.func107 ?_;simp only [go_sem,seval]
 repeat' with_reducible first|apply And.intro|exact .dq|refine aa.pure (by assumption) ?_|refine .aH (fun h=>?_) fun h=>?_|refine .aF (fun h=>?_) fun h=>?_|refine .aK (fun h=>?_) fun h=>?_|refine .split (fun h=>?_) fun h=>?_|refine .id ?_|refine ah.next (by omega) ?_ ?_|exact trivial|simp only [*,go_sem,seval]
 all_goals (simp only [DA];simp_all)
def aL.okB (t:aL):Bool:=within t.aX 1 1048576&&(within t.aR 1 1073741824&&(t.fZ != t.dY&&(ot t.fZ t.inst&&ot t.dY t.inst)))
theorem Ah (t:aL):Abs.Spec Tryz.prog 108 [] [.agg t.cells] [] (.bool t.okB):=by
 have h1:=o8 t.fZ t.inst;have h2:=o8 t.dY t.inst;simp only [aL.cells];refine aU 44 1 [.tmp 2] mixed Tryz.func108 ?_;simp only [go_sem,seval]
 repeat' with_reducible first|apply And.intro|exact .dq|refine aa.pure (by assumption) ?_|refine aa.pure (h1) ?_|refine aa.pure (h2) ?_|refine .aH (fun h=>?_) fun h=>?_|refine .aF (fun h=>?_) fun h=>?_|refine .aK (fun h=>?_) fun h=>?_|refine .split (fun h=>?_) fun h=>?_|refine .id ?_|refine ah.next (by omega) ?_ ?_|exact trivial|simp only [*,go_sem,seval]
 all_goals first
  | (simp_all [aL.okB,within,bne];done)
  | (rw [Bool.eq_iff_iff];simp_all [aL.okB,within];omega)
def aA.okB (p:aA):Bool:=ot p.who p.inst&&(within p.aX (-1099511627776) 1099511627776&&(bS p.cost&&!(p.aX==0&&p.cost==0)))
def fQ (a b:aA):Bool:=DA a.who a.inst b.who b.inst
def cq (n:Int) (l:List aA):List Int:=(l.filter (·.inst==n)).map aA.aX
def kD (n:Int) (l:List aA):Bool:=qU (cq n l)==0&&qC (cq n l)==0
def kZ (l:List aA):Bool:=(List.range 8).all fun i=>kD ((i:Int)+1) l
theorem Cy (n:Int) (l:List aA) {i:Nat} (h:i < l.length):cq n (l.take (i+1))=if l[i].inst==n then cq n (l.take i)++[l[i].aX] else cq n (l.take i):=by
 simp only [cq];rw [List.take_succ_eq_append_getElem h,List.filter_append,List.map_append];cases hb:l[i].inst==n<;>simp [List.filter,hb]
theorem tT (n:Int) (l:List aA):(cq n l).length<=l.length:=by
 simp only [cq,aI];exact List.length_filter_le _ _
theorem Mq (l:List aA) (hl:l.length < 2 ^ 30):Abs.Spec Tryz.prog 109 [] [.sl 4 (l.map aA.cells)] [] (.bool (kZ l)):=by
 refine aU 41 1 [.tmp 2] mixed Tryz.func109 ?_;simp only [go_sem,seval];refine aB.count 8 [0] [] (fun i=>[(3,.int .i64 ((i:Int)+1))]) (fun i=>[]) (fun i=>∀ j < i,kD ((j:Int)+1) l=true) (by simp) ?_ ?_
 ·simp only [go_sem,seval]<;>simp
 intro c hc hI;rcases Nat.lt_or_ge c 8 with hc' | hc'
 case inr =>
  obtain rfl:c=8:=by omega
  have e:kZ l=true:=List.all_eq_true.2 fun j hj=>hI j (List.mem_range.1 hj)
  simp only [go_sem,seval,e]<;>simp
 obtain ⟨n,hn⟩:=aO ((c:Int)+1);have hd:decide (n<=8)=true:=decide_eq_true (by omega);have hw:IntKind.wrap .i64 (n+1)=((c+1:Nat):Int)+1:=by rw [bz (by omega) (by omega)];omega
 rw [<- hn];simp only [go_sem,seval,hd,aI];refine aB.walk (S:=Unit) l.length [0,3,13,14] [240] (fun i _=>[(15,.int .i64 i),(4,.ref 464)]) (fun i _=>[(464,.own 1 (ints (cq n (l.take i))))]) (fun _ _=>True) () trivial ?_ ?_ ?_
 ·simp only [go_sem,seval]<;>simp [cq,ints]
 ·intro i _ hi hdi hwi _;have hm:=aD (c:=aA.cells) l hi;have hs:=Cy n l hi;have hlen:=tT n (l.take i);have hlt:(l.take i).length<=l.length:=by simp;omega
  simp only [aA.cells] at hm;simp only [go_sem,seval,hdi,hm];refine ⟨by omega,?_⟩;cases hb:l[i].inst==n
  ·rw [hb] at hs;simp only [ir,if_false] at hs;simp only [go_sem,seval,hwi];refine ah.step () hi trivial ?_;simp only [go_sem,seval,hs]
  ·rw [hb,if_pos rfl] at hs;simp only [go_sem,seval,hwi,az];refine ⟨by omega,ah.step () hi trivial ?_⟩;simp only [go_sem,seval,hs]<;>simp [ints]
 ·intro _ hdx _;have hlen:=tT n l;have hsum:=IC (cq n l) (by omega)
  have hbad:kD n l=false->kZ l=false:=fun hx=>by
   cases hh:kZ l
   ·rfl
   ·have:=List.all_eq_true.1 hh c (List.mem_range.2 hc');rw [<- hn,hx] at this;cases this
  have hgood:kD n l=true->∀ j < c+1,kD ((j:Int)+1) l=true:=fun hx j hj=>by
   rcases Nat.lt_or_ge j c with h | h
   ·exact hI j h
   ·obtain rfl:j=c:=by omega
    rw [<- hn];exact hx
  simp only [go_sem,seval,hdx,List.take_length];refine aa.gen [] [] true (by simp) ?_;simp only [go_sem,seval];refine bg.intro hsum ?_;cases hE:qU (cq n l)==0
  ·simp only [go_sem,seval,bne,hE,hbad (by simp [kD,hE])]
  cases hN:qC (cq n l)==0
  ·simp only [go_sem,seval,bne,hE,hN,hbad (by simp [kD,hE,hN])]
  simp only [go_sem,seval,bne,hE,hN,hw];refine ah.next hc' (hgood (by simp [kD,hE,hN])) ?_
  simp only [go_sem,seval]
def eR (n:Int) (t:aL):Bool:=t.okB&&(!decide (t.no < 1)&&!decide (n < t.no))
def eD (a b:aL):Bool:=decide (a.no < b.no)
def aG.okB (b:aG):Bool:=lV aA.okB fQ b.qs&&(lV (eR b.next) eD b.ts&&(kZ b.qs&&(!decide (128 < (b.ts.length:Int))&&(!decide (b.next < 0)&&!decide (1099511627776 < b.next)))))
def aG.small (b:aG):Prop:=b.ts.length < 2 ^ 30/\b.qs.length < 2 ^ 30
theorem sV (b:aG) (hl:b.small):Abs.Spec Tryz.prog 32 [] [.agg b.cells] [] (.int .i64 (if b.okB then 0 else 14)):=by
 obtain ⟨hl1,hl2⟩:=hl;have hlev:=Mq b.qs (by omega);simp only [aG.cells];refine aU 124 1 [.tmp 2] mixed Tryz.func32 ?_;simp only [go_sem,seval,aI];refine aB.count b.qs.length [1,8,9] [32,160] (fun i=>[(10,.int .i64 i)]) (fun i=>[]) (fun i=>∀ j < i,ke aA.okB fQ b.qs j=true) (by simp) ?_ ?_
 ·simp only [go_sem,seval]<;>simp
 ·intro i hi hI;simp only [go_sem,seval];refine bH.aF (fun h=>?_) (fun h=>?_)
  ·have hi':i < b.qs.length:=by omega
   have hw:IntKind.wrap .i64 ((i:Int)+1)=((i+1:Nat):Int):=by rw [bz (by omega) (by omega)];omega
   have hm:=aD (c:=aA.cells) b.qs hi';have h1:=o8 b.qs[i].who b.qs[i].inst;have h2:Abs.Spec Tryz.prog 106 [] [.sl 1 [[.int .i64 b.qs[i].cost]]] [] (.bool (right [b.qs[i].cost])):=lg [b.qs[i].cost] (by simp);rw [p7] at h2;have e0:=nr (i:=i) hI;have e1:ke aA.okB fQ b.qs i=false->b.okB=false:=fun hx=>by simp [aG.okB,qX hi' hx]
   simp only [aA.cells] at hm;rcases Nat.eq_zero_or_pos i with rfl | hpos
   ·have hk:=gz (ok:=aA.okB) (lt:=fQ) hi';simp only [aA.okB,within] at hk;clear hlev;simp only [go_sem,seval,hm]
    repeat' with_reducible first|apply And.intro|exact .dq|refine aa.pure (by assumption) ?_|refine aa.pure (h1) ?_|(refine aa.gen [] [] true (by simp) ?_;simp only [go_sem,seval];refine bg.intro h2 ?_)|refine .aH (fun h=>?_) fun h=>?_|refine .aF (fun h=>?_) fun h=>?_|refine .aK (fun h=>?_) fun h=>?_|refine .split (fun h=>?_) fun h=>?_|refine .id ?_|refine ah.next (by omega) ?_ ?_|exact trivial|simp only [*,go_sem,seval]
    all_goals first
     | omega
     | rfl
     | (refine e0 ?_;clear e0 e1;rw [hk];clear hk;simp_all;done)
     | (refine e0 ?_;clear e0 e1;rw [hk];clear hk;simp_all;omega)
     | (rw [e1 ?_]
        ·rfl
        ·clear e0 e1;rw [hk];clear hk;simp_all;done)
     | (rw [e1 ?_]
        ·rfl
        ·clear e0 e1;rw [hk];clear hk;simp_all;omega)
   ·obtain ⟨j,rfl⟩:∃ j,i=j+1:=⟨i-1,by omega⟩
    have hj:j < b.qs.length:=by omega
    have hw1:IntKind.wrap .i64 (((j+1:Nat):Int)-1)=(j:Int):=by rw [bz (by omega) (by omega)];omega
    have hk:=fT (ok:=aA.okB) (lt:=fQ) hi';simp only [aA.okB,within,fQ] at hk;have hmj:=aD (c:=aA.cells) b.qs hj;have h4:=HO b.qs[j].who b.qs[j].inst b.qs[j+1].who b.qs[j+1].inst;simp only [aA.cells] at hmj;clear hlev;simp only [go_sem,seval,hm]
    repeat' with_reducible first|apply And.intro|exact .dq|refine aa.pure (by assumption) ?_|refine aa.pure (h1) ?_|refine aa.pure (h4) ?_|(refine aa.gen [] [] true (by simp) ?_;simp only [go_sem,seval];refine bg.intro h2 ?_)|refine .aH (fun h=>?_) fun h=>?_|refine .aF (fun h=>?_) fun h=>?_|refine .aK (fun h=>?_) fun h=>?_|refine .split (fun h=>?_) fun h=>?_|refine .id ?_|refine ah.next (by omega) ?_ ?_|exact trivial|simp only [*,go_sem,seval,hmj]
    all_goals first
     | omega
     | rfl
     | (refine e0 ?_;clear e0 e1;rw [hk];clear hk;simp_all;done)
     | (refine e0 ?_;clear e0 e1;rw [hk];clear hk;simp_all;omega)
     | (rw [e1 ?_]
        ·rfl
        ·clear e0 e1;rw [hk];clear hk;simp_all;done)
     | (rw [e1 ?_]
        ·rfl
        ·clear e0 e1;rw [hk];clear hk;simp_all;omega)
  ·obtain rfl:i=b.qs.length:=by omega
   have hP:=lY hI;simp only [go_sem,seval,aI];refine aB.count b.ts.length [1,65,66] [32,1072] (fun i=>[(67,.int .i64 i)]) (fun i=>[]) (fun i=>∀ j < i,ke (eR b.next) eD b.ts j=true) (by simp) ?_ ?_
   ·simp only [go_sem,seval]<;>simp
   ·intro i hi hI;simp only [go_sem,seval];refine bH.aF (fun h=>?_) (fun h=>?_)
    ·have hi':i < b.ts.length:=by omega
     have hw:IntKind.wrap .i64 ((i:Int)+1)=((i+1:Nat):Int):=by rw [bz (by omega) (by omega)];omega
     have hm:=aD (c:=aL.cells) b.ts hi';have h1:=Ah b.ts[i];have e0:=nr (i:=i) hI;have e1:ke (eR b.next) eD b.ts i=false->b.okB=false:=fun hx=>by simp [aG.okB,qX hi' hx]
     simp only [aL.cells] at hm h1;rcases Nat.eq_zero_or_pos i with rfl | hpos
     ·have hk:=gz (ok:=eR b.next) (lt:=eD) hi';simp only [eR] at hk;clear hlev hP;simp only [go_sem,seval,hm]
      repeat' with_reducible first|apply And.intro|exact .dq|refine aa.pure (by assumption) ?_|refine aa.pure (h1) ?_|refine .aH (fun h=>?_) fun h=>?_|refine .aF (fun h=>?_) fun h=>?_|refine .aK (fun h=>?_) fun h=>?_|refine .split (fun h=>?_) fun h=>?_|refine .id ?_|refine ah.next (by omega) ?_ ?_|exact trivial|simp only [*,go_sem,seval]
      all_goals first
       | omega
       | rfl
       | (refine e0 ?_;clear e0 e1;rw [hk];clear hk;simp_all;done)
       | (refine e0 ?_;clear e0 e1;rw [hk];clear hk;simp_all;omega)
       | (rw [e1 ?_]
          ·rfl
          ·clear e0 e1;rw [hk];clear hk;simp_all;done)
     ·obtain ⟨j,rfl⟩:∃ j,i=j+1:=⟨i-1,by omega⟩
      have hj:j < b.ts.length:=by omega
      have hw1:IntKind.wrap .i64 (((j+1:Nat):Int)-1)=(j:Int):=by rw [bz (by omega) (by omega)];omega
      have hk:=fT (ok:=eR b.next) (lt:=eD) hi';simp only [eR,eD] at hk;have hmj:=aD (c:=aL.cells) b.ts hj;simp only [aL.cells] at hmj;clear hlev hP;simp only [go_sem,seval,hm]
      repeat' with_reducible first|apply And.intro|exact .dq|refine aa.pure (by assumption) ?_|refine aa.pure (h1) ?_|refine .aH (fun h=>?_) fun h=>?_|refine .aF (fun h=>?_) fun h=>?_|refine .aK (fun h=>?_) fun h=>?_|refine .split (fun h=>?_) fun h=>?_|refine .id ?_|refine ah.next (by omega) ?_ ?_|exact trivial|simp only [*,go_sem,seval,hmj]
      all_goals first
       | omega
       | rfl
       | (refine e0 ?_;clear e0 e1;rw [hk];clear hk;simp_all;done)
       | (refine e0 ?_;clear e0 e1;rw [hk];clear hk;simp_all;omega)
       | (rw [e1 ?_]
          ·rfl
          ·clear e0 e1;rw [hk];clear hk;simp_all;done)
    ·obtain rfl:i=b.ts.length:=by omega
     have hT:=lY hI;have e:b.okB=(kZ b.qs&&(!decide (128 < (b.ts.length:Int))&&(!decide (b.next < 0)&&!decide (1099511627776 < b.next)))):=by simp [aG.okB,hP,hT]
     rw [e];clear e hP hT hI;simp only [go_sem,seval,aI];refine aa.pure hlev ?_;cases b1:kZ b.qs
     ·simp only [go_sem,seval,b1]<;>simp
     cases b2:decide (128 < (b.ts.length:Int))
     case true=>simp only [go_sem,seval,aI,b1,b2]<;>simp
     cases b3:decide (b.next < 0)
     case true=>simp only [go_sem,seval,aI,b1,b2,b3]<;>simp
     cases b4:decide (1099511627776 < b.next)<;>simp only [go_sem,seval,aI,b1,b2,b3,b4]<;>simp
theorem acD {x:Int} (h:0<=x) (h':x < 18446744073709551616):SJ .u64 x=18446744073709551615-x:=by
 have:=agh x.toNat (by omega);rw [Int.toNat_of_nonneg h] at this;rw [this];omega
theorem aar (a:Int) (h:fy a):Abs.Spec Tryz.prog 264 [] [.int .i64 a] [] (.int .u64 (a.natAbs:Nat)):=by
 obtain ⟨h1,h2⟩:=h;refine aU 10 1 [.tmp 2] mixed Tryz.func264 ?_;rcases Int.lt_or_le a 0 with hn | hn
 ·have d:decide (a < 0)=true:=decide_eq_true hn;have e:IntKind.wrap .u64 (0-IntKind.wrap .u64 a)=(a.natAbs:Nat):=by rw [IntKind.wrap_u64,IntKind.wrap_u64];omega
  simp only [go_sem,seval,d,e]
 ·have d:decide (a < 0)=false:=decide_eq_false (by omega);have e:IntKind.wrap .u64 a=(a.natAbs:Nat):=by rw [IntKind.wrap_u64];omega
  simp only [go_sem,seval,d,e]
theorem Xf (W:Int):(18446744073709551615-W%18446744073709551616+1+0)%18446744073709551616=(-W)%18446744073709551616:=by omega
theorem W1 (W:Int) (h:-85070591730234615865843651857942052864<=W/\W<=85070591730234615865843651857942052864) :
  IntKind.wrap .i64 ((18446744073709551615-(W / 18446744073709551616)%18446744073709551616+0+(18446744073709551615-W%18446744073709551616+1+0) / 18446744073709551616)%18446744073709551616)=(-W) / 18446744073709551616:=by
 obtain ⟨q,hq⟩:=aO (W / 18446744073709551616);obtain ⟨l,hl⟩:=aO (W%18446744073709551616);obtain ⟨c,hc⟩:=aO ((18446744073709551615-l+1+0) / 18446744073709551616);have h1:(-W) / 18446744073709551616 = -q-1+c:=by omega
 have h2:-4611686018427387904<=q/\q<=4611686018427387904:=by omega
 have h3:0<=c/\c<=1:=by omega
 rw [<- hq,<- hl,<- hc,h1,IntKind.wrap_i64];clear hq hl hc h1 h;obtain ⟨x,hx⟩:=aO ((18446744073709551615-q%18446744073709551616+0+c)%18446744073709551616);rw [<- hx];rcases Int.lt_or_le x 9223372036854775808 with h | h<;>omega
theorem abd (W:Int) (h:-85070591730234615865843651857942052864<=W/\W<=85070591730234615865843651857942052864):Abs.Spec Tryz.prog 265 [] [.agg (wd W)] [] (.agg (wd (-W))):=by
 have hn1:=acD (x:=W%18446744073709551616) (by omega) (by omega);have hu:IntKind.wrap .u64 (W / 18446744073709551616)=(W / 18446744073709551616)%18446744073709551616:=IntKind.wrap_u64 _;have hn2:=acD (x:=(W / 18446744073709551616)%18446744073709551616) (by omega) (by omega);have e1:=Xf W;have e2:=W1 W h;simp only [wd];refine aU 27 1 [.cell 2 214] mixed Tryz.func265 ?_;simp only [go_sem,seval,hn1];refine aa.sem rfl ?_
 with_reducible refine gU.yX (k:=196) (fn:=Tryz.f196) (i:=18446744073709551615-W%18446744073709551616) (j:=1) (m:=0) ?_ Tryz.func196 ?_ ?_ mg mD ?_ ?_ ?_ ?_ ?_ ?_ ?_ ?_ ?_
 iterate 11 (first | rfl | omega)
 simp only [go_sem,seval,hu,hn2];refine aa.sem rfl ?_
 with_reducible refine gU.yX (k:=196) (fn:=Tryz.f196) (i:=18446744073709551615-(W / 18446744073709551616)%18446744073709551616) (j:=0) (m:=(18446744073709551615-W%18446744073709551616+1+0) / 18446744073709551616) ?_ Tryz.func196 ?_ ?_ mg mD ?_ ?_ ?_ ?_ ?_ ?_ ?_ ?_ ?_
 iterate 11 (first | rfl | omega)
 simp only [go_sem,seval,e1,e2]
theorem zR (a b:Int):((a.natAbs*b.natAbs:Nat):Int)=if (decide (a < 0) != decide (b < 0))=true then -(a*b) else a*b:=by
 rw [Int.natCast_mul];rcases Int.lt_or_le a 0 with ha | ha<;>rcases Int.lt_or_le b 0 with hb | hb
 ·have e1:(a.natAbs:Int) = -a:=by omega
  have e2:(b.natAbs:Int) = -b:=by omega
  have d1:decide (a < 0)=true:=decide_eq_true ha;have d2:decide (b < 0)=true:=decide_eq_true hb;rw [e1,e2,d1,d2,Int.neg_mul_neg];rfl
 ·have e1:(a.natAbs:Int) = -a:=by omega
  have e2:(b.natAbs:Int)=b:=by omega
  have d1:decide (a < 0)=true:=decide_eq_true ha;have d2:decide (b < 0)=false:=decide_eq_false (by omega);rw [e1,e2,d1,d2,Int.neg_mul];rfl
 ·have e1:(a.natAbs:Int)=a:=by omega
  have e2:(b.natAbs:Int) = -b:=by omega
  have d1:decide (a < 0)=false:=decide_eq_false (by omega);have d2:decide (b < 0)=true:=decide_eq_true hb;rw [e1,e2,d1,d2,Int.mul_neg];rfl
 ·have e1:(a.natAbs:Int)=a:=by omega
  have e2:(b.natAbs:Int)=b:=by omega
  have d1:decide (a < 0)=false:=decide_eq_false (by omega);have d2:decide (b < 0)=false:=decide_eq_false (by omega);rw [e1,e2,d1,d2];rfl
theorem lq (a b:Int) (ha:fy a) (hb:fy b):Abs.Spec Tryz.prog 224 [] [.int .i64 a,.int .i64 b] [] (.agg (wd (a*b))):=by
 have h1:=aar a ha;have h2:=aar b hb;obtain ⟨ha1,ha2⟩:=ha;obtain ⟨hb1,hb2⟩:=hb;have h3:=BI a.natAbs b.natAbs (by omega) (by omega);obtain ⟨P,hP⟩:=aO (a.natAbs*b.natAbs)
 have hPb:P<=85070591730234615865843651857942052864:=by
  have:a.natAbs*b.natAbs<=9223372036854775808*9223372036854775808:=Nat.mul_le_mul (by omega) (by omega);omega
 have hPc:=zR a b;rw [<- hP] at h3 hPc;have hw:IntKind.wrap .i64 ((P / 18446744073709551616:Nat):Int)=(P:Int) / 18446744073709551616:=by rw [IntKind.wrap_i64];omega
 have hl:((P%18446744073709551616:Nat):Int)=(P:Int)%18446744073709551616:=by omega
 have hneg:=abd (P:Int) (by omega);simp only [wd] at hneg |-;refine aU 28 2 [.cell 4 214] mixed Tryz.func224 ?_;simp only [go_sem,seval];refine aa.pure h1 ?_;simp only [go_sem,seval];refine aa.pure h2 ?_;simp only [go_sem,seval];refine aa.pure h3 ?_;cases hd:(decide (a < 0)==decide (b < 0))
 ·rw [bne,hd,if_pos (by rfl)] at hPc;have hPn:a*b = -(P:Int):=by omega
  simp only [go_sem,seval,hw,hl,hd];refine aa.pure hneg ?_;simp only [go_sem,seval,hPn]
 ·rw [bne,hd,if_neg (by simp)] at hPc;simp only [go_sem,seval,hw,hl,hd,hPc]
def ay.zero:ay:=⟨0,0,0,0,0,0,0,0,0,0,0,0⟩
theorem Ev (xs:List ay) (n:Int) (hl:xs.length < 2 ^ 62):Abs.Spec Tryz.prog 198 [] [.sl 12 (xs.map ay.cells),.fn 100 [],.int .i64 n] [] (.bD [.agg (fP ay.no n ay.zero xs).cells,.int .i64 (iG ay.no n xs)]):=by
 refine aU 27 3 [.cell 6 108,.tmp 7] mixed Tryz.func198 ?_;simp only [go_sem,seval,aI];refine aB.count xs.length [1,2,6,11,12] [112,208] (fun i=>[(13,.int .i64 i)]) (fun i=>[]) (fun i=>∀ j (hj:j < xs.length),j < i->xs[j].no≠n) (by simp) ?_ ?_
 ·simp only [go_sem,seval]<;>simp
 ·intro i hi hI;simp only [go_sem,seval];refine bH.aF (fun h=>?_) (fun h=>?_)
  ·have hi':i < xs.length:=by omega
   have hw:IntKind.wrap .i64 ((i:Int)+1)=((i+1:Nat):Int):=by rw [bz (by omega) (by omega)];omega
   have hm:=aD (c:=ay.cells) xs hi';have hno:=tu xs[i];simp only [ay.cells] at hm hno |-;simp only [go_sem,seval,hm];refine ⟨by omega,aa.pure hno ?_⟩;simp only [go_sem,seval];refine bH.split (fun hb=>?_) (fun hb=>?_)
   ·have hb:xs[i].no=n:=by simpa using hb
    obtain ⟨g1,g2⟩:=iV (z:=ay.zero) hi' hI hb;rw [g1,g2];simp only [go_sem,seval]
   ·have hb:xs[i].no≠n:=by simpa using hb
    simp only [go_sem,seval,hw];refine ah.next hi' ?_ ?_
    ·intro j hj hji;rcases Nat.lt_or_ge j i with h | h
     ·exact hI j hj h
     ·obtain rfl:j=i:=by omega
      exact hb
    ·simp only [go_sem,seval]
  ·obtain rfl:i=xs.length:=by omega
   obtain ⟨g1,g2⟩:=gB (z:=ay.zero) (fun j hj=>hI j hj hj);rw [g1,g2];simp only [go_sem,seval,ay.cells,ay.zero]
def aV (r:aq) (n:Int):ay:=fP ay.no n ay.zero r.ns
def bf (r:aq) (n:Int):Bool:=decide (0<=iG ay.no n r.ns)
theorem Es (r:aq) (n:Int) (hl:r.small):Abs.Spec Tryz.prog 122 [] [.agg r.cells,.int .i64 n] [] (.bD [.agg (aV r n).cells,.bool (bf r n)]):=by
 have h:=Ev r.ns n (by have:=hl.2.1;omega);obtain ⟨g,hg⟩:=aO (fP ay.no n ay.zero r.ns);simp only [aV,bf];rw [<- hg] at h |-;simp only [ay.cells] at h |-;simp only [aq.cells];refine aU 18 2 [.cell 4 108,.tmp 5] mixed Tryz.func122 ?_;simp only [go_sem,seval];refine aa.pure h ?_;simp only [go_sem,seval]
structure gV where
 i:ay
 q:Int
@[reducible] def gV.cells (x:gV):List D:=[.int .i64 x.i.no,.int .i64 x.i.cur,.int .i64 x.i.mult,.int .i64 x.i.add,.int .i64 x.i.set,.int .i64 x.i.aR,.int .i64 x.i.s0,.int .i64 x.i.s1,.int .i64 x.i.s2,.int .i64 x.i.s3,.int .i64 x.i.s4,.int .i64 x.i.s5,.int .i64 x.q]
def FJ (r:aq) (w c:Int) (p:aA):Bool:=bf r p.inst&&(p.who==w&&(aV r p.inst).cur==c)
def mV (r:aq) (w c:Int) (qs:List aA):List gV:=(qs.filter (FJ r w c)).map fun p=>⟨aV r p.inst,p.aX⟩
def x9 (p:aA):Bool:=!decide (p.aX < -1099511627776)&&!decide (1099511627776 < p.aX)
def PA (r:aq) (qs:List aA):Int:=if r.okB then (if qs.all x9 then 0 else 3) else 14
theorem It (r:aq) (w c:Int) (l:List aA) {i:Nat} (h:i < l.length):mV r w c (l.take (i+1))=if FJ r w c l[i] then mV r w c (l.take i)++[⟨aV r l[i].inst,l[i].aX⟩] else mV r w c (l.take i):=by
 simp only [mV];rw [List.take_succ_eq_append_getElem h,List.filter_append,List.map_append];cases hb:FJ r w c l[i]<;>simp [List.filter,hb]
theorem At (r:aq) (w c:Int) (l:List aA):(mV r w c l).length<=l.length:=by
 simp only [mV,aI];exact List.length_filter_le _ _
def rG (j:Nat) (p:gV):Int:=-p.q*p.i.mult*p.i.sh j
def kY (l:List gV) (j:Nat):Int:=aC (l.map (rG j))
def J4 (p:gV):Int:=max p.q (-p.q)*p.i.add
def Aj (p:gV):Prop:=p.i.ok=true /\ -1099511627776<=p.q/\p.q<=1099511627776
theorem A0 {x:ay} (h:x.ok=true) (j:Nat):-1073741824<=x.sh j/\x.sh j<=1073741824:=by
 simp only [ay.ok,cg] at h;have hs:=h.1.1.1.1.1.1;simp only [ay.Ih,List.all_eq_true,List.mem_range,within,cg,decide_eq_true_eq] at hs;rcases Nat.lt_or_ge j 6 with hj | hj
 ·exact hs j hj
 ·have e:x.sh j=x.sh 5:=by
   rcases j with _ | _ | _ | _ | _ | _ | j<;>first | omega | rfl
  rw [e];exact hs 5 (by omega)
theorem nQ {x:ay} (h:x.ok=true):(1<=x.mult/\x.mult<=1024)/\(0<=x.add/\x.add<=1073741824):=by
 simp only [ay.ok,within,cg,decide_eq_true_eq] at h;omega
theorem fI {a b A B:Int} (ha:-A<=a/\a<=A) (hb:-B<=b/\b<=B):-(A*B)<=a*b/\a*b<=A*B:=by
 have hA:0<=A:=by omega
 have hB:0<=B:=by omega
 have h:a.natAbs*b.natAbs<=A.natAbs*B.natAbs:=Nat.mul_le_mul (by omega) (by omega);have h1:(a*b).natAbs=a.natAbs*b.natAbs:=Int.natAbs_mul a b;have h2:(A*B).natAbs=A.natAbs*B.natAbs:=Int.natAbs_mul A B;have h3:0<=A*B:=Int.mul_nonneg hA hB;omega
theorem IJ {p:gV} (h:Aj p) (j:Nat):(-1125899906842624 <= -p.q*p.i.mult /\ -p.q*p.i.mult<=1125899906842624) /\ -1208925819614629174706176<=rG j p/\rG j p<=1208925819614629174706176:=by
 obtain ⟨h1,h2,h3⟩:=h;obtain ⟨⟨m1,m2⟩,-⟩:=nQ h1;have s:=A0 h1 j;have r1:=fI (a:=-p.q) (b:=p.i.mult) (A:=1099511627776) (B:=1024) (by omega) (by omega);have r1:-1125899906842624 <= -p.q*p.i.mult /\ -p.q*p.i.mult<=1125899906842624:=r1;have r2:=fI (a:=-p.q*p.i.mult) (b:=p.i.sh j) (A:=1125899906842624) (B:=1073741824) r1 s;exact ⟨r1,r2⟩
theorem Lk {p:gV} (h:Aj p):-1208925819614629174706176<=J4 p/\J4 p<=1208925819614629174706176:=by
 obtain ⟨h1,h2,h3⟩:=h;obtain ⟨-,m1,m2⟩:=nQ h1;have r1:=fI (a:=max p.q (-p.q)) (b:=p.i.add) (A:=1099511627776) (B:=1099511627776) (by omega) (by omega);exact r1
theorem vw {l:List Int} {B:Int} (h:∀ n∈l,-B<=n/\n<=B):-(B*l.length)<=aC l/\aC l<=B*l.length:=by
 induction l with
 | nil=>simp [aC]
 | cons x r ih =>
  have h1:=h x (by simp);have h2:=ih fun n hn=>h n (by simp [hn])
  have e:B*((x :: r).length:Int)=B*(r.length:Int)+B:=by
   have:(((x :: r).length:Nat):Int)=(r.length:Int)+1:=by simp
   rw [this,Int.mul_add,Int.mul_one]
  rw [e];simp only [aC];omega
theorem yy {B x:Int} (h:-B<=x/\x<=B) (hB:B<=85070591730234615865843651857942052864):xJ x=true:=by
 simp only [xJ,cg,decide_eq_true_eq];omega
theorem TT {l:List gV} (h:∀ p∈l,Aj p) (j:Nat) (hl:l.length < 2 ^ 30):(∀ n∈l.map (rG j),xJ n=true)/\xJ (kY l j)=true:=by
 have h1:∀ n∈l.map (rG j),-1208925819614629174706176<=n/\n<=1208925819614629174706176:=by
  intro n hn;obtain ⟨p,hp,rfl⟩:=List.mem_map.1 hn;exact (IJ (h p hp) j).2
 refine ⟨fun n hn=>yy (h1 n hn) (by omega),?_⟩;have h2:=vw (B:=1208925819614629174706176) h1;simp only [aI] at h2;refine yy (B:=1208925819614629174706176*(l.length:Int)) h2 (by omega)
def jf (l:List gV) (i:Nat) (j:Nat):D:=.int .i64 (if j < i then kY l j else 0)
def fO (l:List gV) (i:Nat):List D:=[jf l i 0,jf l i 1,jf l i 2,jf l i 3,jf l i 4,jf l i 5]
theorem KC (l:List gV) {i:Nat} (h:i < 6):kP (fO l i) (i*1) [.int .i64 (kY l i)]=fO l (i+1):=by
 rcases i with _ | _ | _ | _ | _ | _ | i<;>first | omega | simp [fO,jf,kP]
theorem ru (l:List gV):fO l 0=[.int .i64 0,.int .i64 0,.int .i64 0,.int .i64 0,.int .i64 0,.int .i64 0]:=by simp [fO,jf]
def lW (l:List gV):Bool:=(List.range 6).any fun j=>!bS (kY l j)
def uu (r:aq) (w c:Int) (qs:List aA):Int:=if PA r qs=0 then (if lW (mV r w c qs) then 1 else 0) else PA r qs
def DU (r:aq) (w c:Int) (qs:List aA):List D:=if uu r w c qs=0 then fO (mV r w c qs) 6 else fO [] 0
theorem I3 {A:Type} {no:A->Int} {n:Int} {z:A}:∀ {xs:List A},0<=iG no n xs->fP no n z xs∈xs/\no (fP no n z xs)=n
 | [],h=>by simp [iG] at h
 | x :: r,h=>by
  simp only [iG] at h;simp only [fP];split at h
  ·rename_i h1;rw [if_pos h1];exact ⟨by simp,h1⟩
  ·rename_i h1;rw [if_neg h1];split at h
   ·omega
   ·have:=I3 (no:=no) (n:=n) (z:=z) (xs:=r) (by omega);exact ⟨List.mem_cons_of_mem _ this.1,this.2⟩
theorem qd {A:Type} {no:A->Int} {ok:A->Bool} {xs:List A} (h:iQ no ok xs=true):∀ x∈xs,ok x=true:=by
 intro x hx;obtain ⟨i,hi,rfl⟩:=List.mem_iff_getElem.1 hx;have:=List.all_eq_true.1 h i (List.mem_range.2 hi);rcases Nat.eq_zero_or_pos i with rfl | hp
 ·rwa [ga no ok xs hi (by omega)] at this
 ·rw [fV no ok xs hi hp,cg] at this;exact this.1
theorem uj {r:aq} (h:r.okB=true) {n:Int} (hi:bf r n=true):(aV r n).ok=true:=by
 simp only [aq.okB,cg] at h;exact qd h.1.2 _ (I3 (by simpa [bf] using hi)).1
theorem KQ {r:aq} {w c:Int} {qs:List aA} (h:PA r qs=0):∀ p∈mV r w c qs,Aj p:=by
 have hk:r.okB=true/\qs.all x9=true:=by
  unfold PA at h;split at h
  ·rename_i h1;split at h
   ·rename_i h2;exact ⟨h1,h2⟩
   ·cases h
  ·cases h
 intro p hp;simp only [mV,List.mem_map,List.mem_filter] at hp;obtain ⟨x,⟨hx,hh⟩,rfl⟩:=hp;have hq:=List.all_eq_true.1 hk.2 x hx;simp only [x9,cg,Bool.not_eq_true',decide_eq_false_iff_not] at hq;refine ⟨?_,by simp only;omega,by simp only;omega⟩;simp only [FJ,cg] at hh;exact uj hk.1 hh.1
theorem abi (p:gV) {i:Nat} (h:i < 6):(List.drop (6+i*1) p.cells).headD .undef=.int .i64 (p.i.sh i):=by
 rcases i with _ | _ | _ | _ | _ | _ | i<;>first | rfl | omega
def uR (f:Nat->Int):Nat->Int
 | 0=>0
 | i+1=>max (uR f i) (f i)
theorem Jt {f:Nat->Int} (n:Nat) (h:∀ j < n,bS (f j)=true):0<=uR f n/\uR f n<=4611686018427387904:=by
 induction n with
 | zero=>simp [uR]
 | succ n ih =>
  have h1:=ih fun j hj=>h j (by omega)
  have h2:=cR.1 (h n (by omega));simp only [uR];omega
def IZ (l:List gV):Int:=aC (uR (kY l) 6 :: l.map J4)
def Bq (r:aq) (w c:Int) (qs:List aA):Int:=if uu r w c qs=0 then (if bS (IZ (mV r w c qs)) then 0 else 1) else uu r w c qs
def zV (r:aq) (w c:Int) (qs:List aA):Int:=if uu r w c qs=0 then (if bS (IZ (mV r w c qs)) then IZ (mV r w c qs) else 0) else 0
theorem Q2 (f:Nat->Int) {i:Nat} (h:i < 6):(List.drop (i*1) [D.int .i64 (f 0),D.int .i64 (f 1),D.int .i64 (f 2),D.int .i64 (f 3),D.int .i64 (f 4),D.int .i64 (f 5)]).headD .undef=.int .i64 (f i):=by
 rcases i with _ | _ | _ | _ | _ | _ | i<;>first | rfl | omega
theorem NN {r:aq} {w c:Int} {qs:List aA} (h:uu r w c qs=0):PA r qs=0/\lW (mV r w c qs)=false:=by
 unfold uu at h;split at h
 ·rename_i h1;refine ⟨h1,?_⟩;cases hb:lW (mV r w c qs)
  ·rfl
  ·rw [hb] at h;cases h
 ·rename_i h1;exact (h1 h).elim
theorem Md {l:List gV} (h:lW l=false):∀ j < 6,bS (kY l j)=true:=by
 intro j hj;simp only [lW,List.any_eq_false,List.mem_range] at h;simpa using h j hj
theorem sL (x:ak):Abs.Spec Tryz.prog 156 [] [.agg x.cells] [] (.bool x.ok):=by
 have h1:=fD x.no;have h2:=bk x.state 1 3;have h3:=bk x.need 0 4611686018427387904;simp only [ak.cells];refine aU 16 1 [.tmp 2] mixed Tryz.func156 ?_;simp only [go_sem,seval]
 repeat' with_reducible first|apply And.intro|exact .dq|refine aa.pure (by assumption) ?_|refine aa.pure (h1) ?_|refine aa.pure (h2) ?_|refine aa.pure (h3) ?_|refine .aH (fun h=>?_) fun h=>?_|refine .aF (fun h=>?_) fun h=>?_|refine .aK (fun h=>?_) fun h=>?_|refine .split (fun h=>?_) fun h=>?_|refine .id ?_|refine ah.next (by omega) ?_ ?_|exact trivial|simp only [*,go_sem,seval]
 all_goals first
  | (simp_all [ak.ok];done)
  | (rw [Bool.eq_iff_iff];simp_all [ak.ok,within,bS];omega)
theorem rJ (x:ay):Abs.Spec Tryz.prog 157 [] [.agg x.cells] [] (.bool x.ok):=by
 have h1:=bk x.no 1 8;have h2:=fH x.cur;have h3:=bk x.mult 1 1024;have h4:=bk x.add 0 1073741824;have h5:=bk x.set 0 1073741824;have h6:=bk x.aR 0 1073741824;simp only [ay.cells];refine aU 42 1 [.tmp 2] mixed Tryz.func157 ?_;simp only [go_sem,seval];refine aB.walk (S:=Unit) 6 [1] [32] (fun i _=>[(3,.int .i64 i)]) (fun i _=>[]) (fun i _=>∀ j < i,within (x.sh j) (-1073741824) 1073741824=true) () (by intros;omega) ?_ ?_ ?_
 ·simp only [go_sem,seval]<;>simp
 ·intro i _ hi hdi hw hI;have hdi:decide ((i:Int) < 6)=true:=hdi;have hix:=Q2 x.sh hi;have e6:[D.int .i64 (x.sh 0),D.int .i64 (x.sh 1),D.int .i64 (x.sh 2),D.int .i64 (x.sh 3),D.int .i64 (x.sh 4),D.int .i64 (x.sh 5)]=[D.int .i64 x.s0,D.int .i64 x.s1,D.int .i64 x.s2,D.int .i64 x.s3,D.int .i64 x.s4,D.int .i64 x.s5]:=rfl;rw [e6] at hix
  have hix2:(List.drop (6+i*1) x.cells).headD .undef=.int .i64 (x.sh i):=by
   rcases i with _ | _ | _ | _ | _ | _ | i<;>first | rfl | omega
  simp only [ay.cells] at hix2;have hv:=bk (x.sh i) (-1073741824) 1073741824;simp only [go_sem,seval,hdi,hix,hix2];(with_reducible and_intros)<;>first|exact .dq|omega|skip
  refine aa.pure hv ?_;cases hb:within (x.sh i) (-1073741824) 1073741824
  ·have e1:x.Ih=false:=by
    cases hc:x.Ih
    ·rfl
    ·rw [ay.Ih,List.all_eq_true] at hc;rw [hc i (List.mem_range.2 hi)] at hb;cases hb
   have e2:x.ok=false:=by simp [ay.ok,e1]
   simp only [go_sem,seval,e2]
  ·simp only [go_sem,seval,hw];refine ah.step () hi ?_ ?_
   ·intro j hj;rcases Nat.lt_or_ge j i with h | h
    ·exact hI j h
    ·obtain rfl:j=i:=by omega
     exact hb
   ·simp only [go_sem,seval]
 ·intro _ hdx hI;have hdx:decide ((6:Int) < 6)=false:=hdx;have hs:x.Ih=true:=List.all_eq_true.2 fun j hj=>hI j (List.mem_range.1 hj)
  have e:x.ok=(within x.no 1 8&&within x.cur 0 2&&within x.mult 1 1024&&within x.add 0 1073741824&&within x.set 0 1073741824&&within x.aR 0 1073741824):=by simp [ay.ok,hs]
  rw [e];clear hI e hs
  repeat' with_reducible first|apply And.intro|exact .dq|refine aa.pure (by assumption) ?_|refine aa.pure (h1) ?_|refine aa.pure (h2) ?_|refine aa.pure (h3) ?_|refine aa.pure (h4) ?_|refine aa.pure (h5) ?_|refine aa.pure (h6) ?_|refine .aH (fun h=>?_) fun h=>?_|refine .aF (fun h=>?_) fun h=>?_|refine .aK (fun h=>?_) fun h=>?_|refine .split (fun h=>?_) fun h=>?_|refine .id ?_|refine ah.next (by omega) ?_ ?_|exact trivial|simp only [*,go_sem,seval]
  all_goals (simp_all;done)
section
variable {A:Type} {no:A->Int} {ok:A->Bool} {xs:List A}
theorem CN {i:Nat} (h:i < xs.length) (hn:cw no ok xs i=false):iQ no ok xs=false:=by
 cases hc:iQ no ok xs
 ·rfl
 ·rw [List.all_eq_true.1 hc i (List.mem_range.2 h)] at hn;cases hn
theorem tM (h:∀ i < xs.length,cw no ok xs i=true):iQ no ok xs=true:=List.all_eq_true.2 fun i hi=>h i (List.mem_range.1 hi)
theorem vo {i:Nat} (hI:∀ j < i,cw no ok xs j=true) (h0:cw no ok xs i=true):∀ k < i+1,cw no ok xs k=true:=fun k hk=>by
 rcases Nat.lt_or_ge k i with h | h
 ·exact hI k h
 ·obtain rfl:k=i:=by omega
  exact h0
end
theorem dK (r:aq) (hl:r.small):Abs.Spec Tryz.prog 155 [] [.agg r.cells] [] (.bool r.okB):=by
 obtain ⟨l1,l2,l3⟩:=hl;simp only [aq.cells];refine aU 108 1 [.tmp 2] mixed Tryz.func155 ?_;simp only [go_sem,seval,aI];refine aB.count r.ms.length [1] [32] (fun i=>[(3,.int .i64 i)]) (fun i=>[]) (fun i=>∀ j < i,cw ak.no ak.ok r.ms j=true) (by simp) ?_ ?_
 ·simp only [go_sem,seval]<;>simp
 intro i hi hI;simp only [go_sem,seval,aI];refine bH.aF (fun h=>?_) (fun h=>?_)
 ·have hi':i < r.ms.length:=by omega
  have hw:IntKind.wrap .i64 ((i:Int)+1)=((i+1:Nat):Int):=by rw [bz (by omega) (by omega)];omega
  have hm:=aD (c:=ak.cells) r.ms hi';have h1:=sL r.ms[i];have e0:=vo (i:=i) hI;have e1:cw ak.no ak.ok r.ms i=false->r.okB=false:=fun hx=>by simp [aq.okB,CN hi' hx]
  have hlt:(i:Int) < (r.ms.length:Int):=by omega
  simp only [ak.cells] at hm h1;rcases Nat.eq_zero_or_pos i with rfl | hpos
  ·have hk:=ga ak.no ak.ok r.ms hi' (by omega);simp only [go_sem,seval,hm,aI]
   repeat' with_reducible first|apply And.intro|exact .dq|refine aa.pure (by assumption) ?_|refine aa.pure (h1) ?_|refine .aH (fun h=>?_) fun h=>?_|refine .aF (fun h=>?_) fun h=>?_|refine .aK (fun h=>?_) fun h=>?_|refine .split (fun h=>?_) fun h=>?_|refine .id ?_|refine ah.next (by omega) ?_ ?_|exact trivial|simp only [*,go_sem,seval]
   all_goals first
    | omega
    | rfl
    | (refine e0 ?_;clear e0 e1;rw [hk];clear hk;simp_all;done)
    | (rw [e1 ?_];clear e0 e1;rw [hk];clear hk;simp_all;done)
  ·obtain ⟨j,rfl⟩:∃ j,i=j+1:=⟨i-1,by omega⟩
   have hj:j < r.ms.length:=by omega
   have hw1:IntKind.wrap .i64 (((j+1:Nat):Int)-1)=(j:Int):=by rw [bz (by omega) (by omega)];omega
   have hk:=fV ak.no ak.ok r.ms hi' (by omega);have hmj:=aD (c:=ak.cells) r.ms hj;have hlj:(j:Int) < (r.ms.length:Int):=by omega
   simp only [ak.cells] at hmj;simp only [Nat.add_sub_cancel] at hk;simp only [go_sem,seval,hm,aI]
   repeat' with_reducible first|apply And.intro|exact .dq|refine aa.pure (by assumption) ?_|refine aa.pure (h1) ?_|refine .aH (fun h=>?_) fun h=>?_|refine .aF (fun h=>?_) fun h=>?_|refine .aK (fun h=>?_) fun h=>?_|refine .split (fun h=>?_) fun h=>?_|refine .id ?_|refine ah.next (by omega) ?_ ?_|exact trivial|simp only [*,go_sem,seval,hmj,aI]
   all_goals first
    | omega
    | rfl
    | (refine e0 ?_;clear e0 e1;rw [hk];clear hk;simp_all;done)
    | (refine e0 ?_;clear e0 e1;rw [hk];clear hk;simp_all;omega)
    | (rw [e1 ?_];clear e0 e1;rw [hk];clear hk;simp_all;done)
    | (rw [e1 ?_];clear e0 e1;rw [hk];clear hk;simp_all;omega)
 have hR1:=tM (fun j (hj:j < r.ms.length)=>hI j (by omega));clear hI;simp only [go_sem,seval,aI];refine aB.count r.ns.length [1] [32] (fun i=>[(4,.int .i64 i)]) (fun i=>[]) (fun i=>∀ j < i,cw ay.no ay.ok r.ns j=true) (by simp) ?_ ?_
 ·simp only [go_sem,seval]<;>simp
 intro i hi hI;simp only [go_sem,seval,aI];refine bH.aF (fun h=>?_) (fun h=>?_)
 ·have hi':i < r.ns.length:=by omega
  have hw:IntKind.wrap .i64 ((i:Int)+1)=((i+1:Nat):Int):=by rw [bz (by omega) (by omega)];omega
  have hm:=aD (c:=ay.cells) r.ns hi';have h1:=rJ r.ns[i];have e0:=vo (i:=i) hI;have e1:cw ay.no ay.ok r.ns i=false->r.okB=false:=fun hx=>by simp [aq.okB,CN hi' hx]
  have hlt:(i:Int) < (r.ns.length:Int):=by omega
  simp only [ay.cells] at hm h1;rcases Nat.eq_zero_or_pos i with rfl | hpos
  ·have hk:=ga ay.no ay.ok r.ns hi' (by omega);simp only [go_sem,seval,hm,aI]
   repeat' with_reducible first|apply And.intro|exact .dq|refine aa.pure (by assumption) ?_|refine aa.pure (h1) ?_|refine .aH (fun h=>?_) fun h=>?_|refine .aF (fun h=>?_) fun h=>?_|refine .aK (fun h=>?_) fun h=>?_|refine .split (fun h=>?_) fun h=>?_|refine .id ?_|refine ah.next (by omega) ?_ ?_|exact trivial|simp only [*,go_sem,seval]
   all_goals first
    | omega
    | rfl
    | (refine e0 ?_;clear e0 e1;rw [hk];clear hk;simp_all;done)
    | (rw [e1 ?_];clear e0 e1;rw [hk];clear hk;simp_all;done)
  ·obtain ⟨j,rfl⟩:∃ j,i=j+1:=⟨i-1,by omega⟩
   have hj:j < r.ns.length:=by omega
   have hw1:IntKind.wrap .i64 (((j+1:Nat):Int)-1)=(j:Int):=by rw [bz (by omega) (by omega)];omega
   have hk:=fV ay.no ay.ok r.ns hi' (by omega);have hmj:=aD (c:=ay.cells) r.ns hj;have hlj:(j:Int) < (r.ns.length:Int):=by omega
   simp only [ay.cells] at hmj;simp only [Nat.add_sub_cancel] at hk;simp only [go_sem,seval,hm,aI]
   repeat' with_reducible first|apply And.intro|exact .dq|refine aa.pure (by assumption) ?_|refine aa.pure (h1) ?_|refine .aH (fun h=>?_) fun h=>?_|refine .aF (fun h=>?_) fun h=>?_|refine .aK (fun h=>?_) fun h=>?_|refine .split (fun h=>?_) fun h=>?_|refine .id ?_|refine ah.next (by omega) ?_ ?_|exact trivial|simp only [*,go_sem,seval,hmj,aI]
   all_goals first
    | omega
    | rfl
    | (refine e0 ?_;clear e0 e1;rw [hk];clear hk;simp_all;done)
    | (refine e0 ?_;clear e0 e1;rw [hk];clear hk;simp_all;omega)
    | (rw [e1 ?_];clear e0 e1;rw [hk];clear hk;simp_all;done)
    | (rw [e1 ?_];clear e0 e1;rw [hk];clear hk;simp_all;omega)
 have hR2:=tM (fun j (hj:j < r.ns.length)=>hI j (by omega));clear hI;simp only [go_sem,seval,aI];refine aB.count r.xs.length [1] [32] (fun i=>[(5,.int .i64 i)]) (fun i=>[]) (fun i=>∀ j < i,cw av.a av.ok r.xs j=true) (by simp) ?_ ?_
 ·simp only [go_sem,seval]<;>simp
 intro i hi hI;simp only [go_sem,seval,aI];refine bH.aF (fun h=>?_) (fun h=>?_)
 ·have hi':i < r.xs.length:=by omega
  have hw:IntKind.wrap .i64 ((i:Int)+1)=((i+1:Nat):Int):=by rw [bz (by omega) (by omega)];omega
  have hm:=aD (c:=av.cells) r.xs hi';have h1:=oY r.xs[i];have e0:=vo (i:=i) hI;have e1:cw av.a av.ok r.xs i=false->r.okB=false:=fun hx=>by simp [aq.okB,CN hi' hx]
  have hlt:(i:Int) < (r.xs.length:Int):=by omega
  simp only [av.cells] at hm h1;rcases Nat.eq_zero_or_pos i with rfl | hpos
  ·have hk:=ga av.a av.ok r.xs hi' (by omega);simp only [go_sem,seval,hm,aI]
   repeat' with_reducible first|apply And.intro|exact .dq|refine aa.pure (by assumption) ?_|refine aa.pure (h1) ?_|refine .aH (fun h=>?_) fun h=>?_|refine .aF (fun h=>?_) fun h=>?_|refine .aK (fun h=>?_) fun h=>?_|refine .split (fun h=>?_) fun h=>?_|refine .id ?_|refine ah.next (by omega) ?_ ?_|exact trivial|simp only [*,go_sem,seval]
   all_goals first
    | omega
    | rfl
    | (refine e0 ?_;clear e0 e1;rw [hk];clear hk;simp_all;done)
    | (rw [e1 ?_];clear e0 e1;rw [hk];clear hk;simp_all;done)
  ·obtain ⟨j,rfl⟩:∃ j,i=j+1:=⟨i-1,by omega⟩
   have hj:j < r.xs.length:=by omega
   have hw1:IntKind.wrap .i64 (((j+1:Nat):Int)-1)=(j:Int):=by rw [bz (by omega) (by omega)];omega
   have hk:=fV av.a av.ok r.xs hi' (by omega);have hmj:=aD (c:=av.cells) r.xs hj;have hlj:(j:Int) < (r.xs.length:Int):=by omega
   simp only [av.cells] at hmj;simp only [Nat.add_sub_cancel] at hk;simp only [go_sem,seval,hm,aI]
   repeat' with_reducible first|apply And.intro|exact .dq|refine aa.pure (by assumption) ?_|refine aa.pure (h1) ?_|refine .aH (fun h=>?_) fun h=>?_|refine .aF (fun h=>?_) fun h=>?_|refine .aK (fun h=>?_) fun h=>?_|refine .split (fun h=>?_) fun h=>?_|refine .id ?_|refine ah.next (by omega) ?_ ?_|exact trivial|simp only [*,go_sem,seval,hmj,aI]
   all_goals first
    | omega
    | rfl
    | (refine e0 ?_;clear e0 e1;rw [hk];clear hk;simp_all;done)
    | (refine e0 ?_;clear e0 e1;rw [hk];clear hk;simp_all;omega)
    | (rw [e1 ?_];clear e0 e1;rw [hk];clear hk;simp_all;done)
    | (rw [e1 ?_];clear e0 e1;rw [hk];clear hk;simp_all;omega)
 have hR3:=tM (fun j (hj:j < r.xs.length)=>hI j (by omega));clear hI;simp only [go_sem,seval,aI];have e:r.okB=true:=by simp [aq.okB,hR1,hR2,hR3]
 rw [e]
theorem dc (r:aq) (n:Int) (hl:r.small):Abs.Spec Tryz.prog 158 [] [.agg r.cells,.int .i64 n] [] (.bD [.agg (aV r n).cells,.bool (bf r n)]):=by
 obtain ⟨l1,l2,l3⟩:=hl;simp only [aq.cells];refine aU 28 2 [.cell 4 108,.tmp 5] mixed Tryz.func158 ?_;simp only [go_sem,seval,aI];refine aB.walk (S:=Unit) r.ns.length [1,2,4] [48,80] (fun i _=>[(6,.int .i64 i)]) (fun i _=>[]) (fun i _=>∀ j (hj:j < r.ns.length),j < i->r.ns[j].no≠n) () (by intros;omega) ?_ ?_ ?_
 ·simp only [go_sem,seval]<;>simp
 ·intro i _ hi hdi hw hI;have hm:=aD (c:=ay.cells) r.ns hi;have hlt:(i:Int) < (r.ns.length:Int):=by omega
  simp only [ay.cells] at hm |-;simp only [go_sem,seval,aI,hdi,hm];(with_reducible and_intros)<;>first|exact .dq|omega|skip
  cases hb:r.ns[i].no==n
  ·have hb2:r.ns[i].no≠n:=by simpa using hb
   simp only [go_sem,seval,hw];refine ah.step () hi ?_ ?_
   ·intro j hj hji;rcases Nat.lt_or_ge j i with h | h
    ·exact hI j hj h
    ·obtain rfl:j=i:=by omega
     exact hb2
   ·simp only [go_sem,seval]
  ·have hb2:r.ns[i].no=n:=by simpa using hb
   obtain ⟨g1,g2⟩:=iV (z:=ay.zero) hi hI hb2;have e1:aV r n=r.ns[i]:=g1;have e2:bf r n=true:=by simp [bf,g2]
   rw [e1,e2];simp only [go_sem,seval,hm,aI];(with_reducible and_intros)<;>first|exact .dq|omega|skip
 ·intro _ hdx hI;obtain ⟨g1,g2⟩:=gB (z:=ay.zero) (fun j hj=>hI j hj hj);have e1:aV r n=ay.zero:=g1;have e2:bf r n=false:=by simp [bf,g2]
  rw [e1,e2];simp only [go_sem,seval,aI,hdx,ay.cells,ay.zero]
end Go.Proofs.YtacacccbcndjoaaGreat
