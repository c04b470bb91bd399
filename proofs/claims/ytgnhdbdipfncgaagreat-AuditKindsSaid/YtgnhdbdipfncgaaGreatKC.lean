/- States, with all their rows, and what follows. No theorem of a claim. -/
import Derived.Test.YtgnhdbdipfncgaaGreatKB
import Derived.Test.YtgnhdbdipfncgaaGreatAbcOpen
import Derived.Test.YtgnhdbdipfncgaaGreatKA
set_option linter.unusedSimpArgs false
set_option linter.unusedVariables false
set_option maxHeartbeats 4000000
set_option maxRecDepth 16000
namespace Go.Proofs.YtgnhdbdipfncgaaGreat
open Go.Abs
def I64 (n:Int):Prop:=-9223372036854775808<=n/\n<=9223372036854775807
structure PosV where
 who:Int
 inst:Int
 qty:Int
 cost:Int
deriving DecidableEq
@[reducible] def PosV.cells (x:PosV):List D:=[.int .i64 x.who,.int .i64 x.inst,.int .i64 x.qty,.int .i64 x.cost]
def PosV.rng (x:PosV):Prop:=I64 x.who/\I64 x.inst/\I64 x.qty/\I64 x.cost
structure TradeV where
 no:Int
 buyer:Int
 seller:Int
 inst:Int
 qty:Int
 price:Int
 off:Bool
deriving DecidableEq
@[reducible] def TradeV.cells (x:TradeV):List D:=[.int .i64 x.no,.int .i64 x.buyer,.int .i64 x.seller,.int .i64 x.inst,.int .i64 x.qty,.int .i64 x.price,.bool x.off]
def TradeV.rng (x:TradeV):Prop:=I64 x.no/\I64 x.buyer/\I64 x.seller/\I64 x.inst/\I64 x.qty/\I64 x.price
structure DueV where
 who:Int
 cur:Int
 amt:Int
deriving DecidableEq
@[reducible] def DueV.cells (x:DueV):List D:=[.int .i64 x.who,.int .i64 x.cur,.int .i64 x.amt]
def DueV.rng (x:DueV):Prop:=I64 x.who/\I64 x.cur/\I64 x.amt
structure CallV where
 who:Int
 cur:Int
 amt:Int
 till:Int
deriving DecidableEq
@[reducible] def CallV.cells (x:CallV):List D:=[.int .i64 x.who,.int .i64 x.cur,.int .i64 x.amt,.int .i64 x.till]
def CallV.rng (x:CallV):Prop:=I64 x.who/\I64 x.cur/\I64 x.amt/\I64 x.till
structure BidV where
 who:Int
 inst:Int
 src:Int
 qty:Int
 price:Int
deriving DecidableEq
@[reducible] def BidV.cells (x:BidV):List D:=[.int .i64 x.who,.int .i64 x.inst,.int .i64 x.src,.int .i64 x.qty,.int .i64 x.price]
def BidV.rng (x:BidV):Prop:=I64 x.who/\I64 x.inst/\I64 x.src/\I64 x.qty/\I64 x.price
structure FallV where
 cur:Int
 loss:Int
 c0:Int
 c1:Int
 c2:Int
 c3:Int
 c4:Int
 rest:Int
deriving DecidableEq
@[reducible] def FallV.cells (x:FallV):List D:=[.int .i64 x.cur,.int .i64 x.loss,.int .i64 x.c0,.int .i64 x.c1,.int .i64 x.c2,.int .i64 x.c3,.int .i64 x.c4,.int .i64 x.rest]
def FallV.rng (x:FallV):Prop:=I64 x.cur/\I64 x.loss/\I64 x.c0/\I64 x.c1/\I64 x.c2/\I64 x.c3/\I64 x.c4/\I64 x.rest
def MemberV.rng (x:MemberV):Prop:=I64 x.no/\I64 x.state/\I64 x.need
def InstV.rng (x:InstV):Prop:=I64 x.no/\I64 x.cur/\I64 x.mult/\I64 x.add/\I64 x.set/\I64 x.price/\I64 x.s0/\I64 x.s1/\I64 x.s2/\I64 x.s3/\I64 x.s4/\I64 x.s5
def AssetV.rng (x:AssetV):Prop:=I64 x.a/\I64 x.b/\I64 x.c/\I64 x.d
def BalV.rng (x:BalV):Prop:=I64 x.kind/\I64 x.who/\I64 x.cur/\I64 x.sum
def Plg.rng (x:Plg):Prop:=I64 x.who/\I64 x.asset/\I64 x.units
structure ReplyV where
 code:Int
 no:Int
 amt:Int
 dues:List DueV
 falls:List FallV
deriving DecidableEq
@[reducible] def ReplyV.cells (x:ReplyV):List D:=[.int .i64 x.code,.int .i64 x.no,.int .i64 x.amt,.sl 3 (x.dues.map DueV.cells),.sl 8 (x.falls.map FallV.cells)]
def ReplyV.fits (x:ReplyV):Prop:=24*x.dues.length<=140737488355328/\64*x.falls.length<=140737488355328
def ReplyV.rng (x:ReplyV):Prop:=True/\True/\True/\True/\True/\x.fits
structure SeatV where
 client:Int
 seq:Int
 r:ReplyV
deriving DecidableEq
@[reducible] def SeatV.cells (x:SeatV):List D:=[.int .i64 x.client,.int .i64 x.seq,.int .i64 x.r.code,.int .i64 x.r.no,.int .i64 x.r.amt,.sl 3 (x.r.dues.map DueV.cells),.sl 8 (x.r.falls.map FallV.cells)]
def SeatV.rng (x:SeatV):Prop:=I64 x.client/\I64 x.seq/\x.r.rng
structure BookV where
 next:Int
 ts:List TradeV
 qs:List PosV
@[reducible] def BookV.cells (b:BookV):List D:=[.int .i64 b.next,.sl 7 (b.ts.map TradeV.cells),.sl 4 (b.qs.map PosV.cells)]
structure StateV where
 now:Int
 day:Int
 phase:Int
 roll:RollV
 book:BookV
 led:LedV
 ps:List Plg
 calls:List CallV
 bids:List BidV
 seats:List SeatV
@[reducible] def StateV.cells (s:StateV):List D:=[.int .i64 s.now,.int .i64 s.day,.int .i64 s.phase,.sl 3 (s.roll.ms.map MemberV.cells),.sl 12 (s.roll.ns.map InstV.cells),.sl 4 (s.roll.xs.map AssetV.cells),.int .i64 s.book.next,.sl 7 (s.book.ts.map TradeV.cells),.sl 4 (s.book.qs.map PosV.cells),
 .int .i64 s.led.last,.sl 4 (s.led.bs.map BalV.cells),.sl 3 (pl s.ps),.sl 4 (s.calls.map CallV.cells),.sl 5 (s.bids.map BidV.cells),.sl 7 (s.seats.map SeatV.cells)]
structure StateV.rng (s:StateV):Prop where
 now:I64 s.now
 day:I64 s.day
 phase:I64 s.phase
 ms:∀ x∈s.roll.ms,x.rng
 ns:∀ x∈s.roll.ns,x.rng
 xs:∀ x∈s.roll.xs,x.rng
 next:I64 s.book.next
 ts:∀ x∈s.book.ts,x.rng
 qs:∀ x∈s.book.qs,x.rng
 last:I64 s.led.last
 bs:∀ x∈s.led.bs,x.rng
 ps:∀ x∈s.ps,x.rng
 calls:∀ x∈s.calls,x.rng
 bids:∀ x∈s.bids,x.rng
 seats:∀ x∈s.seats,x.rng
def chAt {A:Type} (ok:A->Bool) (lt:A->A->Bool) (xs:List A) (i:Nat):Bool:=
 match xs[i]? with
 | none=>true
 | some b=>ok b&&(match i with
  | 0=>true
  | j+1=>match xs[j]? with
   | some q=>lt q b
   | none=>true)
def chB {A:Type} (ok:A->Bool) (lt:A->A->Bool) (xs:List A):Bool:=(List.range xs.length).all (chAt ok lt xs)
section
variable {A:Type} {ok:A->Bool} {lt:A->A->Bool} {xs:List A}
theorem chAt_zero (h:0 < xs.length):chAt ok lt xs 0=ok xs[0]:=by simp [chAt,h]
theorem chAt_succ {j:Nat} (h:j+1 < xs.length):chAt ok lt xs (j+1)=(ok xs[j+1]&&lt (xs[j]'(by omega)) xs[j+1]):=by
 have h':j < xs.length:=by omega
 simp [chAt,h,h']
theorem chB_no {i:Nat} (h:i < xs.length) (hn:chAt ok lt xs i=false):chB ok lt xs=false:=by
 cases hc:chB ok lt xs
 ·rfl
 ·rw [List.all_eq_true.1 hc i (List.mem_range.2 h)] at hn;cases hn
theorem chB_yes (h:∀ i < xs.length,chAt ok lt xs i=true):chB ok lt xs=true:=List.all_eq_true.2 fun i hi=>h i (List.mem_range.1 hi)
theorem chB_at (h:chB ok lt xs=true) {i:Nat} (hi:i < xs.length):chAt ok lt xs i=true:=List.all_eq_true.1 h i (List.mem_range.2 hi)
theorem chB_ok (h:chB ok lt xs=true) {i:Nat} (hi:i < xs.length):ok xs[i]=true:=by
 have:=chB_at h hi;cases i with
 | zero=>rwa [chAt_zero hi] at this
 | succ j=>rw [chAt_succ hi,bae] at this;exact this.1
theorem ch_next {i:Nat} (hI:∀ j < i,chAt ok lt xs j=true) (h0:chAt ok lt xs i=true):∀ k < i+1,chAt ok lt xs k=true:=fun k hk=>by
 rcases Nat.lt_or_ge k i with h | h
 ·exact hI k h
 ·obtain rfl:k=i:=by omega
  exact h0
end
def keyB (w n:Int):Bool:=within w 1 16&&within n 1 8
def keyL (a b c d:Int):Bool:=decide (a < c)||(a==c&&decide (b < d))
theorem rightKey_spec (w n:Int):Abs.Spec Tryz.prog 204 [] [.agg [.int .i64 w,.int .i64 n]] [] (.bool (keyB w n)):=by
 refine sgo 21 1 [.tmp 2] mixed Tryz.func204 ?_;simp only [go_sem,seval]
 repeat' with_reducible first|apply And.intro|exact .dq|refine CallN.pure (by assumption) ?_|refine .splitDN (fun h=>?_) fun h=>?_|refine .splitD (fun h=>?_) fun h=>?_|refine .splitN (fun h=>?_) fun h=>?_|refine .split (fun h=>?_) fun h=>?_|refine .id ?_|refine RoundK.next (by omega) ?_ ?_|exact trivial|simp only [*,go_sem,seval]
 all_goals (simp_all [keyB,within];try omega)
theorem keyLess_spec (a b c d:Int):Abs.Spec Tryz.prog 205 [] [.agg [.int .i64 a,.int .i64 b],.agg [.int .i64 c,.int .i64 d]] [] (.bool (keyL a b c d)):=by
 refine sgo 24 2 [.tmp 4] mixed Tryz.func205 ?_;simp only [go_sem,seval]
 repeat' with_reducible first|apply And.intro|exact .dq|refine CallN.pure (by assumption) ?_|refine .splitDN (fun h=>?_) fun h=>?_|refine .splitD (fun h=>?_) fun h=>?_|refine .splitN (fun h=>?_) fun h=>?_|refine .split (fun h=>?_) fun h=>?_|refine .id ?_|refine RoundK.next (by omega) ?_ ?_|exact trivial|simp only [*,go_sem,seval]
 all_goals (simp only [keyL];simp_all)
def TradeV.okB (t:TradeV):Bool:=within t.qty 1 1048576&&(within t.price 1 1073741824&&(t.buyer != t.seller&&(keyB t.buyer t.inst&&keyB t.seller t.inst)))
theorem rightTrade_spec (t:TradeV):Abs.Spec Tryz.prog 206 [] [.agg t.cells] [] (.bool t.okB):=by
 have h1:=rightKey_spec t.buyer t.inst;have h2:=rightKey_spec t.seller t.inst;simp only [TradeV.cells];refine sgo 44 1 [.tmp 2] mixed Tryz.func206 ?_;simp only [go_sem,seval]
 repeat' with_reducible first|apply And.intro|exact .dq|refine CallN.pure (by assumption) ?_|refine CallN.pure (h1) ?_|refine CallN.pure (h2) ?_|refine .splitDN (fun h=>?_) fun h=>?_|refine .splitD (fun h=>?_) fun h=>?_|refine .splitN (fun h=>?_) fun h=>?_|refine .split (fun h=>?_) fun h=>?_|refine .id ?_|refine RoundK.next (by omega) ?_ ?_|exact trivial|simp only [*,go_sem,seval]
 all_goals first
  | (simp_all [TradeV.okB,within,bne];done)
  | (rw [Bool.eq_iff_iff];simp_all [TradeV.okB,within];omega)
def PosV.okB (p:PosV):Bool:=keyB p.who p.inst&&(within p.qty (-1099511627776) 1099511627776&&(inR p.cost&&!(p.qty==0&&p.cost==0)))
def posLt (a b:PosV):Bool:=keyL a.who a.inst b.who b.inst
def qtysL (n:Int) (l:List PosV):List Int:=(l.filter (·.inst==n)).map PosV.qty
def level1 (n:Int) (l:List PosV):Bool:=sumE (qtysL n l)==0&&sumN (qtysL n l)==0
def levelB (l:List PosV):Bool:=(List.range 8).all fun i=>level1 ((i:Int)+1) l
theorem qtysL_step (n:Int) (l:List PosV) {i:Nat} (h:i < l.length):qtysL n (l.take (i+1))=if l[i].inst==n then qtysL n (l.take i)++[l[i].qty] else qtysL n (l.take i):=by
 simp only [qtysL];rw [List.take_succ_eq_append_getElem h,List.filter_append,List.map_append];cases hb:l[i].inst==n<;>simp [List.filter,hb]
theorem qtysL_len (n:Int) (l:List PosV):(qtysL n l).length<=l.length:=by
 simp only [qtysL,lml];exact List.length_filter_le _ _
theorem level_spec (l:List PosV) (hl:l.length < 2 ^ 30):Abs.Spec Tryz.prog 207 [] [.sl 4 (l.map PosV.cells)] [] (.bool (levelB l)):=by
 refine sgo 41 1 [.tmp 2] mixed Tryz.func207 ?_;simp only [go_sem,seval];refine LoopK.count 8 [0] [] (fun i=>[(3,.int .i64 ((i:Int)+1))]) (fun i=>[]) (fun i=>∀ j < i,level1 ((j:Int)+1) l=true) (by simp) ?_ ?_
 ·simp only [go_sem,seval]<;>simp
 intro c hc hI;rcases Nat.lt_or_ge c 8 with hc' | hc'
 case inr =>
  obtain rfl:c=8:=by omega
  have e:levelB l=true:=List.all_eq_true.2 fun j hj=>hI j (List.mem_range.1 hj)
  simp only [go_sem,seval,e]<;>simp
 obtain ⟨n,hn⟩:=nmE ((c:Int)+1);have hd:decide (n<=8)=true:=decide_eq_true (by omega);have hw:IntKind.wrap .i64 (n+1)=((c+1:Nat):Int)+1:=by rw [wr64 (by omega) (by omega)];omega
 rw [<- hn];simp only [go_sem,seval,hd,lml];refine LoopK.walk (S:=Unit) l.length [0,3,13,14] [240] (fun i _=>[(15,.int .i64 i),(4,.ref 464)]) (fun i _=>[(464,.own 1 (ints (qtysL n (l.take i))))]) (fun _ _=>True) () trivial ?_ ?_ ?_
 ·simp only [go_sem,seval]<;>simp [qtysL,ints]
 ·intro i _ hi hdi hwi _;have hm:=map_at (c:=PosV.cells) l hi;have hs:=qtysL_step n l hi;have hlen:=qtysL_len n (l.take i);have hlt:(l.take i).length<=l.length:=by simp;omega
  simp only [PosV.cells] at hm;simp only [go_sem,seval,hdi,hm];refine ⟨by omega,?_⟩;cases hb:l[i].inst==n
  ·rw [hb] at hs;simp only [bfe,if_false] at hs;simp only [go_sem,seval,hwi];refine RoundK.step () hi trivial ?_;simp only [go_sem,seval,hs]
  ·rw [hb,if_pos rfl] at hs;simp only [go_sem,seval,hwi,ints_len];refine ⟨by omega,RoundK.step () hi trivial ?_⟩;simp only [go_sem,seval,hs]<;>simp [ints]
 ·intro _ hdx _;have hlen:=qtysL_len n l;have hsum:=sum_spec (qtysL n l) (by omega)
  have hbad:level1 n l=false->levelB l=false:=fun hx=>by
   cases hh:levelB l
   ·rfl
   ·have:=List.all_eq_true.1 hh c (List.mem_range.2 hc');rw [<- hn,hx] at this;cases this
  have hgood:level1 n l=true->∀ j < c+1,level1 ((j:Int)+1) l=true:=fun hx j hj=>by
   rcases Nat.lt_or_ge j c with h | h
   ·exact hI j h
   ·obtain rfl:j=c:=by omega
    rw [<- hn];exact hx
  simp only [go_sem,seval,hdx,List.take_length];refine CallN.gen [] [] true (by simp) ?_;simp only [go_sem,seval];refine CallG.intro hsum ?_;cases hE:sumE (qtysL n l)==0
  ·simp only [go_sem,seval,bne,hE,hbad (by simp [level1,hE])]
  cases hN:sumN (qtysL n l)==0
  ·simp only [go_sem,seval,bne,hE,hN,hbad (by simp [level1,hE,hN])]
  simp only [go_sem,seval,bne,hE,hN,hw];refine RoundK.next hc' (hgood (by simp [level1,hE,hN])) ?_
  simp only [go_sem,seval]
def tradeOk (n:Int) (t:TradeV):Bool:=t.okB&&(!decide (t.no < 1)&&!decide (n < t.no))
def tradeLt (a b:TradeV):Bool:=decide (a.no < b.no)
def BookV.okB (b:BookV):Bool:=chB PosV.okB posLt b.qs&&(chB (tradeOk b.next) tradeLt b.ts&&(levelB b.qs&&(!decide (128 < (b.ts.length:Int))&&(!decide (b.next < 0)&&!decide (1099511627776 < b.next)))))
def BookV.small (b:BookV):Prop:=b.ts.length < 2 ^ 30/\b.qs.length < 2 ^ 30
theorem bookCheck_spec (b:BookV) (hl:b.small):Abs.Spec Tryz.prog 87 [] [.agg b.cells] [] (.int .i64 (if b.okB then 0 else 14)):=by
 obtain ⟨hl1,hl2⟩:=hl;have hlev:=level_spec b.qs (by omega);simp only [BookV.cells];refine sgo 124 1 [.tmp 2] mixed Tryz.func87 ?_;simp only [go_sem,seval,lml];refine LoopK.count b.qs.length [1,8,9] [32,160] (fun i=>[(10,.int .i64 i)]) (fun i=>[]) (fun i=>∀ j < i,chAt PosV.okB posLt b.qs j=true) (by simp) ?_ ?_
 ·simp only [go_sem,seval]<;>simp
 ·intro i hi hI;simp only [go_sem,seval];refine CondE.splitD (fun h=>?_) (fun h=>?_)
  ·have hi':i < b.qs.length:=by omega
   have hw:IntKind.wrap .i64 ((i:Int)+1)=((i+1:Nat):Int):=by rw [wr64 (by omega) (by omega)];omega
   have hm:=map_at (c:=PosV.cells) b.qs hi';have h1:=rightKey_spec b.qs[i].who b.qs[i].inst;have h2:Abs.Spec Tryz.prog 136 [] [.sl 1 [[.int .i64 b.qs[i].cost]]] [] (.bool (right [b.qs[i].cost])):=right_spec [b.qs[i].cost] (by simp);rw [right_one] at h2;have e0:=ch_next (i:=i) hI;have e1:chAt PosV.okB posLt b.qs i=false->b.okB=false:=fun hx=>by simp [BookV.okB,chB_no hi' hx]
   simp only [PosV.cells] at hm;rcases Nat.eq_zero_or_pos i with rfl | hpos
   ·have hk:=chAt_zero (ok:=PosV.okB) (lt:=posLt) hi';simp only [PosV.okB,within] at hk;clear hlev;simp only [go_sem,seval,hm]
    repeat' with_reducible first|apply And.intro|exact .dq|refine CallN.pure (by assumption) ?_|refine CallN.pure (h1) ?_|(refine CallN.gen [] [] true (by simp) ?_;simp only [go_sem,seval];refine CallG.intro h2 ?_)|refine .splitDN (fun h=>?_) fun h=>?_|refine .splitD (fun h=>?_) fun h=>?_|refine .splitN (fun h=>?_) fun h=>?_|refine .split (fun h=>?_) fun h=>?_|refine .id ?_|refine RoundK.next (by omega) ?_ ?_|exact trivial|simp only [*,go_sem,seval]
    all_goals first
     | omega
     | rfl
     | (refine e0 ?_;clear e0 e1;rw [hk];clear hk;simp_all;done)
     | (refine e0 ?_;clear e0 e1;rw [hk];clear hk;simp_all;omega)
     | (rw [e1 ?_]
        ·rfl
        ·clear e0 e1;rw [hk];clear hk;simp_all;done)
     | (rw [e1 ?_]
        ·rfl
        ·clear e0 e1;rw [hk];clear hk;simp_all;omega)
   ·obtain ⟨j,rfl⟩:∃ j,i=j+1:=⟨i-1,by omega⟩
    have hj:j < b.qs.length:=by omega
    have hw1:IntKind.wrap .i64 (((j+1:Nat):Int)-1)=(j:Int):=by rw [wr64 (by omega) (by omega)];omega
    have hk:=chAt_succ (ok:=PosV.okB) (lt:=posLt) hi';simp only [PosV.okB,within,posLt] at hk;have hmj:=map_at (c:=PosV.cells) b.qs hj;have h4:=keyLess_spec b.qs[j].who b.qs[j].inst b.qs[j+1].who b.qs[j+1].inst;simp only [PosV.cells] at hmj;clear hlev;simp only [go_sem,seval,hm]
    repeat' with_reducible first|apply And.intro|exact .dq|refine CallN.pure (by assumption) ?_|refine CallN.pure (h1) ?_|refine CallN.pure (h4) ?_|(refine CallN.gen [] [] true (by simp) ?_;simp only [go_sem,seval];refine CallG.intro h2 ?_)|refine .splitDN (fun h=>?_) fun h=>?_|refine .splitD (fun h=>?_) fun h=>?_|refine .splitN (fun h=>?_) fun h=>?_|refine .split (fun h=>?_) fun h=>?_|refine .id ?_|refine RoundK.next (by omega) ?_ ?_|exact trivial|simp only [*,go_sem,seval,hmj]
    all_goals first
     | omega
     | rfl
     | (refine e0 ?_;clear e0 e1;rw [hk];clear hk;simp_all;done)
     | (refine e0 ?_;clear e0 e1;rw [hk];clear hk;simp_all;omega)
     | (rw [e1 ?_]
        ·rfl
        ·clear e0 e1;rw [hk];clear hk;simp_all;done)
     | (rw [e1 ?_]
        ·rfl
        ·clear e0 e1;rw [hk];clear hk;simp_all;omega)
  ·obtain rfl:i=b.qs.length:=by omega
   have hP:=chB_yes hI;simp only [go_sem,seval,lml];refine LoopK.count b.ts.length [1,65,66] [32,1072] (fun i=>[(67,.int .i64 i)]) (fun i=>[]) (fun i=>∀ j < i,chAt (tradeOk b.next) tradeLt b.ts j=true) (by simp) ?_ ?_
   ·simp only [go_sem,seval]<;>simp
   ·intro i hi hI;simp only [go_sem,seval];refine CondE.splitD (fun h=>?_) (fun h=>?_)
    ·have hi':i < b.ts.length:=by omega
     have hw:IntKind.wrap .i64 ((i:Int)+1)=((i+1:Nat):Int):=by rw [wr64 (by omega) (by omega)];omega
     have hm:=map_at (c:=TradeV.cells) b.ts hi';have h1:=rightTrade_spec b.ts[i];have e0:=ch_next (i:=i) hI;have e1:chAt (tradeOk b.next) tradeLt b.ts i=false->b.okB=false:=fun hx=>by simp [BookV.okB,chB_no hi' hx]
     simp only [TradeV.cells] at hm h1;rcases Nat.eq_zero_or_pos i with rfl | hpos
     ·have hk:=chAt_zero (ok:=tradeOk b.next) (lt:=tradeLt) hi';simp only [tradeOk] at hk;clear hlev hP;simp only [go_sem,seval,hm]
      repeat' with_reducible first|apply And.intro|exact .dq|refine CallN.pure (by assumption) ?_|refine CallN.pure (h1) ?_|refine .splitDN (fun h=>?_) fun h=>?_|refine .splitD (fun h=>?_) fun h=>?_|refine .splitN (fun h=>?_) fun h=>?_|refine .split (fun h=>?_) fun h=>?_|refine .id ?_|refine RoundK.next (by omega) ?_ ?_|exact trivial|simp only [*,go_sem,seval]
      all_goals first
       | omega
       | rfl
       | (refine e0 ?_;clear e0 e1;rw [hk];clear hk;simp_all;done)
       | (refine e0 ?_;clear e0 e1;rw [hk];clear hk;simp_all;omega)
       | (rw [e1 ?_]
          ·rfl
          ·clear e0 e1;rw [hk];clear hk;simp_all;done)
     ·obtain ⟨j,rfl⟩:∃ j,i=j+1:=⟨i-1,by omega⟩
      have hj:j < b.ts.length:=by omega
      have hw1:IntKind.wrap .i64 (((j+1:Nat):Int)-1)=(j:Int):=by rw [wr64 (by omega) (by omega)];omega
      have hk:=chAt_succ (ok:=tradeOk b.next) (lt:=tradeLt) hi';simp only [tradeOk,tradeLt] at hk;have hmj:=map_at (c:=TradeV.cells) b.ts hj;simp only [TradeV.cells] at hmj;clear hlev hP;simp only [go_sem,seval,hm]
      repeat' with_reducible first|apply And.intro|exact .dq|refine CallN.pure (by assumption) ?_|refine CallN.pure (h1) ?_|refine .splitDN (fun h=>?_) fun h=>?_|refine .splitD (fun h=>?_) fun h=>?_|refine .splitN (fun h=>?_) fun h=>?_|refine .split (fun h=>?_) fun h=>?_|refine .id ?_|refine RoundK.next (by omega) ?_ ?_|exact trivial|simp only [*,go_sem,seval,hmj]
      all_goals first
       | omega
       | rfl
       | (refine e0 ?_;clear e0 e1;rw [hk];clear hk;simp_all;done)
       | (refine e0 ?_;clear e0 e1;rw [hk];clear hk;simp_all;omega)
       | (rw [e1 ?_]
          ·rfl
          ·clear e0 e1;rw [hk];clear hk;simp_all;done)
    ·obtain rfl:i=b.ts.length:=by omega
     have hT:=chB_yes hI;have e:b.okB=(levelB b.qs&&(!decide (128 < (b.ts.length:Int))&&(!decide (b.next < 0)&&!decide (1099511627776 < b.next)))):=by simp [BookV.okB,hP,hT]
     rw [e];clear e hP hT hI;simp only [go_sem,seval,lml];refine CallN.pure hlev ?_;cases b1:levelB b.qs
     ·simp only [go_sem,seval,b1]<;>simp
     cases b2:decide (128 < (b.ts.length:Int))
     case true=>simp only [go_sem,seval,lml,b1,b2]<;>simp
     cases b3:decide (b.next < 0)
     case true=>simp only [go_sem,seval,lml,b1,b2,b3]<;>simp
     cases b4:decide (1099511627776 < b.next)<;>simp only [go_sem,seval,lml,b1,b2,b3,b4]<;>simp
theorem notI {x:Int} (h:0<=x) (h':x < 18446744073709551616):inot .u64 x=18446744073709551615-x:=by
 have:=notN x.toNat (by omega);rw [Int.toNat_of_nonneg h] at this;rw [this];omega
theorem magI (a:Int) (h:I64 a):Abs.Spec Tryz.prog 155 [] [.int .i64 a] [] (.int .u64 (a.natAbs:Nat)):=by
 obtain ⟨h1,h2⟩:=h;refine sgo 10 1 [.tmp 2] mixed Tryz.func155 ?_;rcases Int.lt_or_le a 0 with hn | hn
 ·have d:decide (a < 0)=true:=decide_eq_true hn;have e:IntKind.wrap .u64 (0-IntKind.wrap .u64 a)=(a.natAbs:Nat):=by rw [IntKind.wrap_u64,IntKind.wrap_u64];omega
  simp only [go_sem,seval,d,e]
 ·have d:decide (a < 0)=false:=decide_eq_false (by omega);have e:IntKind.wrap .u64 a=(a.natAbs:Nat):=by rw [IntKind.wrap_u64];omega
  simp only [go_sem,seval,d,e]
theorem neg_lo (W:Int):(18446744073709551615-W%18446744073709551616+1+0)%18446744073709551616=(-W)%18446744073709551616:=by omega
theorem neg_hi (W:Int) (h:-85070591730234615865843651857942052864<=W/\W<=85070591730234615865843651857942052864) :
  IntKind.wrap .i64 ((18446744073709551615-(W / 18446744073709551616)%18446744073709551616+0+(18446744073709551615-W%18446744073709551616+1+0) / 18446744073709551616)%18446744073709551616)=(-W) / 18446744073709551616:=by
 obtain ⟨q,hq⟩:=nmE (W / 18446744073709551616);obtain ⟨l,hl⟩:=nmE (W%18446744073709551616);obtain ⟨c,hc⟩:=nmE ((18446744073709551615-l+1+0) / 18446744073709551616);have h1:(-W) / 18446744073709551616 = -q-1+c:=by omega
 have h2:-4611686018427387904<=q/\q<=4611686018427387904:=by omega
 have h3:0<=c/\c<=1:=by omega
 rw [<- hq,<- hl,<- hc,h1,IntKind.wrap_i64];clear hq hl hc h1 h;obtain ⟨x,hx⟩:=nmE ((18446744073709551615-q%18446744073709551616+0+c)%18446744073709551616);rw [<- hx];rcases Int.lt_or_le x 9223372036854775808 with h | h<;>omega
theorem negI (W:Int) (h:-85070591730234615865843651857942052864<=W/\W<=85070591730234615865843651857942052864):Abs.Spec Tryz.prog 156 [] [.agg (wd W)] [] (.agg (wd (-W))):=by
 have hn1:=notI (x:=W%18446744073709551616) (by omega) (by omega);have hu:IntKind.wrap .u64 (W / 18446744073709551616)=(W / 18446744073709551616)%18446744073709551616:=IntKind.wrap_u64 _;have hn2:=notI (x:=(W / 18446744073709551616)%18446744073709551616) (by omega) (by omega);have e1:=neg_lo W;have e2:=neg_hi W h;simp only [wd];refine sgo 27 1 [.cell 2 110] mixed Tryz.func156 ?_;simp only [go_sem,seval,hn1];refine CallN.sem rfl ?_
 with_reducible refine SemK.add64 (k:=154) (fn:=Tryz.f154) (i:=18446744073709551615-W%18446744073709551616) (j:=1) (m:=0) ?_ Tryz.func154 ?_ ?_ add_next add_find ?_ ?_ ?_ ?_ ?_ ?_ ?_ ?_ ?_
 iterate 11 (first | rfl | omega)
 simp only [go_sem,seval,hu,hn2];refine CallN.sem rfl ?_
 with_reducible refine SemK.add64 (k:=154) (fn:=Tryz.f154) (i:=18446744073709551615-(W / 18446744073709551616)%18446744073709551616) (j:=0) (m:=(18446744073709551615-W%18446744073709551616+1+0) / 18446744073709551616) ?_ Tryz.func154 ?_ ?_ add_next add_find ?_ ?_ ?_ ?_ ?_ ?_ ?_ ?_ ?_
 iterate 11 (first | rfl | omega)
 simp only [go_sem,seval,e1,e2]
theorem natAbs_mul_cast (a b:Int):((a.natAbs*b.natAbs:Nat):Int)=if (decide (a < 0) != decide (b < 0))=true then -(a*b) else a*b:=by
 rw [Int.natCast_mul];rcases Int.lt_or_le a 0 with ha | ha<;>rcases Int.lt_or_le b 0 with hb | hb
 ·have e1:(a.natAbs:Int) = -a:=by omega
  have e2:(b.natAbs:Int) = -b:=by omega
  have d1:decide (a < 0)=true:=decide_eq_true ha;have d2:decide (b < 0)=true:=decide_eq_true hb;rw [e1,e2,d1,d2,Int.neg_mul_neg];rfl
 ·have e1:(a.natAbs:Int) = -a:=by omega
  have e2:(b.natAbs:Int)=b:=by omega
  have d1:decide (a < 0)=true:=decide_eq_true ha;have d2:decide (b < 0)=false:=decide_eq_false (by omega);rw [e1,e2,d1,d2,Int.neg_mul];rfl
 ·have e1:(a.natAbs:Int)=a:=by omega
  have e2:(b.natAbs:Int) = -b:=by omega
  have d1:decide (a < 0)=false:=decide_eq_false (by omega);have d2:decide (b < 0)=true:=decide_eq_true hb;rw [e1,e2,d1,d2,Int.mul_neg];rfl
 ·have e1:(a.natAbs:Int)=a:=by omega
  have e2:(b.natAbs:Int)=b:=by omega
  have d1:decide (a < 0)=false:=decide_eq_false (by omega);have d2:decide (b < 0)=false:=decide_eq_false (by omega);rw [e1,e2,d1,d2];rfl
theorem refTimesI (a b:Int) (ha:I64 a) (hb:I64 b):Abs.Spec Tryz.prog 64 [] [.int .i64 a,.int .i64 b] [] (.agg (wd (a*b))):=by
 have h1:=magI a ha;have h2:=magI b hb;obtain ⟨ha1,ha2⟩:=ha;obtain ⟨hb1,hb2⟩:=hb;have h3:=mul64_spec a.natAbs b.natAbs (by omega) (by omega);obtain ⟨P,hP⟩:=nmE (a.natAbs*b.natAbs)
 have hPb:P<=85070591730234615865843651857942052864:=by
  have:a.natAbs*b.natAbs<=9223372036854775808*9223372036854775808:=Nat.mul_le_mul (by omega) (by omega);omega
 have hPc:=natAbs_mul_cast a b;rw [<- hP] at h3 hPc;have hw:IntKind.wrap .i64 ((P / 18446744073709551616:Nat):Int)=(P:Int) / 18446744073709551616:=by rw [IntKind.wrap_i64];omega
 have hl:((P%18446744073709551616:Nat):Int)=(P:Int)%18446744073709551616:=by omega
 have hneg:=negI (P:Int) (by omega);simp only [wd] at hneg |-;refine sgo 28 2 [.cell 4 110] mixed Tryz.func64 ?_;simp only [go_sem,seval];refine CallN.pure h1 ?_;simp only [go_sem,seval];refine CallN.pure h2 ?_;simp only [go_sem,seval];refine CallN.pure h3 ?_;cases hd:(decide (a < 0)==decide (b < 0))
 ·rw [bne,hd,if_pos (by rfl)] at hPc;have hPn:a*b = -(P:Int):=by omega
  simp only [go_sem,seval,hw,hl,hd];refine CallN.pure hneg ?_;simp only [go_sem,seval,hPn]
 ·rw [bne,hd,if_neg (by simp)] at hPc;simp only [go_sem,seval,hw,hl,hd,hPc]
def InstV.zero:InstV:=⟨0,0,0,0,0,0,0,0,0,0,0,0⟩
theorem findInst_spec (xs:List InstV) (n:Int) (hl:xs.length < 2 ^ 62):Abs.Spec Tryz.prog 264 [] [.sl 12 (xs.map InstV.cells),.fn 199 [],.int .i64 n] [] (.tup [.agg (getL InstV.no n InstV.zero xs).cells,.int .i64 (posL InstV.no n xs)]):=by
 refine sgo 27 3 [.cell 6 79,.tmp 7] mixed Tryz.func264 ?_;simp only [go_sem,seval,lml];refine LoopK.count xs.length [1,2,6,11,12] [112,208] (fun i=>[(13,.int .i64 i)]) (fun i=>[]) (fun i=>∀ j (hj:j < xs.length),j < i->xs[j].no≠n) (by simp) ?_ ?_
 ·simp only [go_sem,seval]<;>simp
 ·intro i hi hI;simp only [go_sem,seval];refine CondE.splitD (fun h=>?_) (fun h=>?_)
  ·have hi':i < xs.length:=by omega
   have hw:IntKind.wrap .i64 ((i:Int)+1)=((i+1:Nat):Int):=by rw [wr64 (by omega) (by omega)];omega
   have hm:=map_at (c:=InstV.cells) xs hi';have hno:=noInst_spec xs[i];simp only [InstV.cells] at hm hno |-;simp only [go_sem,seval,hm];refine ⟨by omega,CallN.pure hno ?_⟩;simp only [go_sem,seval];refine CondE.split (fun hb=>?_) (fun hb=>?_)
   ·have hb:xs[i].no=n:=by simpa using hb
    obtain ⟨g1,g2⟩:=getL_hit (z:=InstV.zero) hi' hI hb;rw [g1,g2];simp only [go_sem,seval]
   ·have hb:xs[i].no≠n:=by simpa using hb
    simp only [go_sem,seval,hw];refine RoundK.next hi' ?_ ?_
    ·intro j hj hji;rcases Nat.lt_or_ge j i with h | h
     ·exact hI j hj h
     ·obtain rfl:j=i:=by omega
      exact hb
    ·simp only [go_sem,seval]
  ·obtain rfl:i=xs.length:=by omega
   obtain ⟨g1,g2⟩:=getL_miss (z:=InstV.zero) (fun j hj=>hI j hj hj);rw [g1,g2];simp only [go_sem,seval,InstV.cells,InstV.zero]
def instOf (r:RollV) (n:Int):InstV:=getL InstV.no n InstV.zero r.ns
def instIs (r:RollV) (n:Int):Bool:=decide (0<=posL InstV.no n r.ns)
theorem rollInst_spec (r:RollV) (n:Int) (hl:r.small):Abs.Spec Tryz.prog 174 [] [.agg r.cells,.int .i64 n] [] (.tup [.agg (instOf r n).cells,.bool (instIs r n)]):=by
 have h:=findInst_spec r.ns n (by have:=hl.2.1;omega);obtain ⟨g,hg⟩:=nmE (getL InstV.no n InstV.zero r.ns);simp only [instOf,instIs];rw [<- hg] at h |-;simp only [InstV.cells] at h |-;simp only [RollV.cells];refine sgo 18 2 [.cell 4 79,.tmp 5] mixed Tryz.func174 ?_;simp only [go_sem,seval];refine CallN.pure h ?_;simp only [go_sem,seval]
structure PieceV where
 i:InstV
 q:Int
@[reducible] def PieceV.cells (x:PieceV):List D:=[.int .i64 x.i.no,.int .i64 x.i.cur,.int .i64 x.i.mult,.int .i64 x.i.add,.int .i64 x.i.set,.int .i64 x.i.price,.int .i64 x.i.s0,.int .i64 x.i.s1,.int .i64 x.i.s2,.int .i64 x.i.s3,.int .i64 x.i.s4,.int .i64 x.i.s5,.int .i64 x.q]
def pcHit (r:RollV) (w c:Int) (p:PosV):Bool:=instIs r p.inst&&(p.who==w&&(instOf r p.inst).cur==c)
def pcL (r:RollV) (w c:Int) (qs:List PosV):List PieceV:=(qs.filter (pcHit r w c)).map fun p=>⟨instOf r p.inst,p.qty⟩
def qtyB (p:PosV):Bool:=!decide (p.qty < -1099511627776)&&!decide (1099511627776 < p.qty)
def pcE (r:RollV) (qs:List PosV):Int:=if r.okB then (if qs.all qtyB then 0 else 3) else 14
theorem pcL_step (r:RollV) (w c:Int) (l:List PosV) {i:Nat} (h:i < l.length):pcL r w c (l.take (i+1))=if pcHit r w c l[i] then pcL r w c (l.take i)++[⟨instOf r l[i].inst,l[i].qty⟩] else pcL r w c (l.take i):=by
 simp only [pcL];rw [List.take_succ_eq_append_getElem h,List.filter_append,List.map_append];cases hb:pcHit r w c l[i]<;>simp [List.filter,hb]
theorem pcL_len (r:RollV) (w c:Int) (l:List PosV):(pcL r w c l).length<=l.length:=by
 simp only [pcL,lml];exact List.length_filter_le _ _
def lossF (j:Nat) (p:PieceV):Int:=-p.q*p.i.mult*p.i.sh j
def lossP (l:List PieceV) (j:Nat):Int:=sumL (l.map (lossF j))
def addF (p:PieceV):Int:=max p.q (-p.q)*p.i.add
def pieceOk (p:PieceV):Prop:=p.i.ok=true /\ -1099511627776<=p.q/\p.q<=1099511627776
theorem sh_range {x:InstV} (h:x.ok=true) (j:Nat):-1073741824<=x.sh j/\x.sh j<=1073741824:=by
 simp only [InstV.ok,bae] at h;have hs:=h.1.1.1.1.1.1;simp only [InstV.okS,List.all_eq_true,List.mem_range,within,bae,decide_eq_true_eq] at hs;rcases Nat.lt_or_ge j 6 with hj | hj
 ·exact hs j hj
 ·have e:x.sh j=x.sh 5:=by
   rcases j with _ | _ | _ | _ | _ | _ | j<;>first | omega | rfl
  rw [e];exact hs 5 (by omega)
theorem inst_range {x:InstV} (h:x.ok=true):(1<=x.mult/\x.mult<=1024)/\(0<=x.add/\x.add<=1073741824):=by
 simp only [InstV.ok,within,bae,decide_eq_true_eq] at h;omega
theorem mul_range {a b A B:Int} (ha:-A<=a/\a<=A) (hb:-B<=b/\b<=B):-(A*B)<=a*b/\a*b<=A*B:=by
 have hA:0<=A:=by omega
 have hB:0<=B:=by omega
 have h:a.natAbs*b.natAbs<=A.natAbs*B.natAbs:=Nat.mul_le_mul (by omega) (by omega);have h1:(a*b).natAbs=a.natAbs*b.natAbs:=Int.natAbs_mul a b;have h2:(A*B).natAbs=A.natAbs*B.natAbs:=Int.natAbs_mul A B;have h3:0<=A*B:=Int.mul_nonneg hA hB;omega
theorem lossF_range {p:PieceV} (h:pieceOk p) (j:Nat):(-1125899906842624 <= -p.q*p.i.mult /\ -p.q*p.i.mult<=1125899906842624) /\ -1208925819614629174706176<=lossF j p/\lossF j p<=1208925819614629174706176:=by
 obtain ⟨h1,h2,h3⟩:=h;obtain ⟨⟨m1,m2⟩,-⟩:=inst_range h1;have s:=sh_range h1 j;have r1:=mul_range (a:=-p.q) (b:=p.i.mult) (A:=1099511627776) (B:=1024) (by omega) (by omega);have r1:-1125899906842624 <= -p.q*p.i.mult /\ -p.q*p.i.mult<=1125899906842624:=r1;have r2:=mul_range (a:=-p.q*p.i.mult) (b:=p.i.sh j) (A:=1125899906842624) (B:=1073741824) r1 s;exact ⟨r1,r2⟩
theorem addF_range {p:PieceV} (h:pieceOk p):-1208925819614629174706176<=addF p/\addF p<=1208925819614629174706176:=by
 obtain ⟨h1,h2,h3⟩:=h;obtain ⟨-,m1,m2⟩:=inst_range h1;have r1:=mul_range (a:=max p.q (-p.q)) (b:=p.i.add) (A:=1099511627776) (B:=1099511627776) (by omega) (by omega);exact r1
theorem sumL_bound {l:List Int} {B:Int} (h:∀ n∈l,-B<=n/\n<=B):-(B*l.length)<=sumL l/\sumL l<=B*l.length:=by
 induction l with
 | nil=>simp [sumL]
 | cons x r ih =>
  have h1:=h x (by simp);have h2:=ih fun n hn=>h n (by simp [hn])
  have e:B*((x :: r).length:Int)=B*(r.length:Int)+B:=by
   have:(((x :: r).length:Nat):Int)=(r.length:Int)+1:=by simp
   rw [this,Int.mul_add,Int.mul_one]
  rw [e];simp only [sumL];omega
theorem in2_of {B x:Int} (h:-B<=x/\x<=B) (hB:B<=85070591730234615865843651857942052864):in2 x=true:=by
 simp only [in2,bae,decide_eq_true_eq];omega
theorem lossAll {l:List PieceV} (h:∀ p∈l,pieceOk p) (j:Nat) (hl:l.length < 2 ^ 30):(∀ n∈l.map (lossF j),in2 n=true)/\in2 (lossP l j)=true:=by
 have h1:∀ n∈l.map (lossF j),-1208925819614629174706176<=n/\n<=1208925819614629174706176:=by
  intro n hn;obtain ⟨p,hp,rfl⟩:=List.mem_map.1 hn;exact (lossF_range (h p hp) j).2
 refine ⟨fun n hn=>in2_of (h1 n hn) (by omega),?_⟩;have h2:=sumL_bound (B:=1208925819614629174706176) h1;simp only [lml] at h2;refine in2_of (B:=1208925819614629174706176*(l.length:Int)) h2 (by omega)
def lossOut (l:List PieceV) (i:Nat) (j:Nat):D:=.int .i64 (if j < i then lossP l j else 0)
def lossBox (l:List PieceV) (i:Nat):List D:=[lossOut l i 0,lossOut l i 1,lossOut l i 2,lossOut l i 3,lossOut l i 4,lossOut l i 5]
theorem lossBox_set (l:List PieceV) {i:Nat} (h:i < 6):wput (lossBox l i) (i*1) [.int .i64 (lossP l i)]=lossBox l (i+1):=by
 rcases i with _ | _ | _ | _ | _ | _ | i<;>first | omega | simp [lossBox,lossOut,wput]
theorem lossBox_zero (l:List PieceV):lossBox l 0=[.int .i64 0,.int .i64 0,.int .i64 0,.int .i64 0,.int .i64 0,.int .i64 0]:=by simp [lossBox,lossOut]
def lossBad (l:List PieceV):Bool:=(List.range 6).any fun j=>!inR (lossP l j)
def losE (r:RollV) (w c:Int) (qs:List PosV):Int:=if pcE r qs=0 then (if lossBad (pcL r w c qs) then 1 else 0) else pcE r qs
def losB (r:RollV) (w c:Int) (qs:List PosV):List D:=if losE r w c qs=0 then lossBox (pcL r w c qs) 6 else lossBox [] 0
theorem getL_mem {A:Type} {no:A->Int} {n:Int} {z:A}:∀ {xs:List A},0<=posL no n xs->getL no n z xs∈xs/\no (getL no n z xs)=n
 | [],h=>by simp [posL] at h
 | x :: r,h=>by
  simp only [posL] at h;simp only [getL];split at h
  ·rename_i h1;rw [if_pos h1];exact ⟨by simp,h1⟩
  ·rename_i h1;rw [if_neg h1];split at h
   ·omega
   ·have:=getL_mem (no:=no) (n:=n) (z:=z) (xs:=r) (by omega);exact ⟨List.mem_cons_of_mem _ this.1,this.2⟩
theorem rises_ok {A:Type} {no:A->Int} {ok:A->Bool} {xs:List A} (h:rises no ok xs=true):∀ x∈xs,ok x=true:=by
 intro x hx;obtain ⟨i,hi,rfl⟩:=List.mem_iff_getElem.1 hx;have:=List.all_eq_true.1 h i (List.mem_range.2 hi);rcases Nat.eq_zero_or_pos i with rfl | hp
 ·rwa [risesAt_zero no ok xs hi (by omega)] at this
 ·rw [risesAt_pos no ok xs hi hp,bae] at this;exact this.1
theorem instOf_ok {r:RollV} (h:r.okB=true) {n:Int} (hi:instIs r n=true):(instOf r n).ok=true:=by
 simp only [RollV.okB,bae] at h;exact rises_ok h.1.2 _ (getL_mem (by simpa [instIs] using hi)).1
theorem piece_ok {r:RollV} {w c:Int} {qs:List PosV} (h:pcE r qs=0):∀ p∈pcL r w c qs,pieceOk p:=by
 have hk:r.okB=true/\qs.all qtyB=true:=by
  unfold pcE at h;split at h
  ·rename_i h1;split at h
   ·rename_i h2;exact ⟨h1,h2⟩
   ·cases h
  ·cases h
 intro p hp;simp only [pcL,List.mem_map,List.mem_filter] at hp;obtain ⟨x,⟨hx,hh⟩,rfl⟩:=hp;have hq:=List.all_eq_true.1 hk.2 x hx;simp only [qtyB,bae,Bool.not_eq_true',decide_eq_false_iff_not] at hq;refine ⟨?_,by simp only;omega,by simp only;omega⟩;simp only [pcHit,bae] at hh;exact instOf_ok hk.1 hh.1
theorem sh_at (p:PieceV) {i:Nat} (h:i < 6):(List.drop (6+i*1) p.cells).headD .undef=.int .i64 (p.i.sh i):=by
 rcases i with _ | _ | _ | _ | _ | _ | i<;>first | rfl | omega
def mostU (f:Nat->Int):Nat->Int
 | 0=>0
 | i+1=>max (mostU f i) (f i)
theorem mostU_range {f:Nat->Int} (n:Nat) (h:∀ j < n,inR (f j)=true):0<=mostU f n/\mostU f n<=4611686018427387904:=by
 induction n with
 | zero=>simp [mostU]
 | succ n ih =>
  have h1:=ih fun j hj=>h j (by omega)
  have h2:=inR_iff.1 (h n (by omega));simp only [mostU];omega
def marT (l:List PieceV):Int:=sumL (mostU (lossP l) 6 :: l.map addF)
def marE (r:RollV) (w c:Int) (qs:List PosV):Int:=if losE r w c qs=0 then (if inR (marT (pcL r w c qs)) then 0 else 1) else losE r w c qs
def marN (r:RollV) (w c:Int) (qs:List PosV):Int:=if losE r w c qs=0 then (if inR (marT (pcL r w c qs)) then marT (pcL r w c qs) else 0) else 0
theorem six_at (f:Nat->Int) {i:Nat} (h:i < 6):(List.drop (i*1) [D.int .i64 (f 0),D.int .i64 (f 1),D.int .i64 (f 2),D.int .i64 (f 3),D.int .i64 (f 4),D.int .i64 (f 5)]).headD .undef=.int .i64 (f i):=by
 rcases i with _ | _ | _ | _ | _ | _ | i<;>first | rfl | omega
theorem losE_zero {r:RollV} {w c:Int} {qs:List PosV} (h:losE r w c qs=0):pcE r qs=0/\lossBad (pcL r w c qs)=false:=by
 unfold losE at h;split at h
 ·rename_i h1;refine ⟨h1,?_⟩;cases hb:lossBad (pcL r w c qs)
  ·rfl
  ·rw [hb] at h;cases h
 ·rename_i h1;exact (h1 h).elim
theorem lossBad_no {l:List PieceV} (h:lossBad l=false):∀ j < 6,inR (lossP l j)=true:=by
 intro j hj;simp only [lossBad,List.any_eq_false,List.mem_range] at h;simpa using h j hj
theorem refMember_spec (x:MemberV):Abs.Spec Tryz.prog 159 [] [.agg x.cells] [] (.bool x.ok):=by
 have h1:=refWho_spec x.no;have h2:=within11_spec x.state 1 3;have h3:=within11_spec x.need 0 4611686018427387904;simp only [MemberV.cells];refine sgo 16 1 [.tmp 2] mixed Tryz.func159 ?_;simp only [go_sem,seval]
 repeat' with_reducible first|apply And.intro|exact .dq|refine CallN.pure (by assumption) ?_|refine CallN.pure (h1) ?_|refine CallN.pure (h2) ?_|refine CallN.pure (h3) ?_|refine .splitDN (fun h=>?_) fun h=>?_|refine .splitD (fun h=>?_) fun h=>?_|refine .splitN (fun h=>?_) fun h=>?_|refine .split (fun h=>?_) fun h=>?_|refine .id ?_|refine RoundK.next (by omega) ?_ ?_|exact trivial|simp only [*,go_sem,seval]
 all_goals first
  | (simp_all [MemberV.ok];done)
  | (rw [Bool.eq_iff_iff];simp_all [MemberV.ok,within,inR];omega)
theorem refInst_ok_spec (x:InstV):Abs.Spec Tryz.prog 160 [] [.agg x.cells] [] (.bool x.ok):=by
 have h1:=within11_spec x.no 1 8;have h2:=refCur_spec x.cur;have h3:=within11_spec x.mult 1 1024;have h4:=within11_spec x.add 0 1073741824;have h5:=within11_spec x.set 0 1073741824;have h6:=within11_spec x.price 0 1073741824;simp only [InstV.cells];refine sgo 42 1 [.tmp 2] mixed Tryz.func160 ?_;simp only [go_sem,seval];refine LoopK.walk (S:=Unit) 6 [1] [32] (fun i _=>[(3,.int .i64 i)]) (fun i _=>[]) (fun i _=>∀ j < i,within (x.sh j) (-1073741824) 1073741824=true) () (by intros;omega) ?_ ?_ ?_
 ·simp only [go_sem,seval]<;>simp
 ·intro i _ hi hdi hw hI;have hdi:decide ((i:Int) < 6)=true:=hdi;have hix:=six_at x.sh hi;have e6:[D.int .i64 (x.sh 0),D.int .i64 (x.sh 1),D.int .i64 (x.sh 2),D.int .i64 (x.sh 3),D.int .i64 (x.sh 4),D.int .i64 (x.sh 5)]=[D.int .i64 x.s0,D.int .i64 x.s1,D.int .i64 x.s2,D.int .i64 x.s3,D.int .i64 x.s4,D.int .i64 x.s5]:=rfl;rw [e6] at hix
  have hix2:(List.drop (6+i*1) x.cells).headD .undef=.int .i64 (x.sh i):=by
   rcases i with _ | _ | _ | _ | _ | _ | i<;>first | rfl | omega
  simp only [InstV.cells] at hix2;have hv:=within11_spec (x.sh i) (-1073741824) 1073741824;simp only [go_sem,seval,hdi,hix,hix2];(with_reducible and_intros)<;>first|exact .dq|omega|skip
  refine CallN.pure hv ?_;cases hb:within (x.sh i) (-1073741824) 1073741824
  ·have e1:x.okS=false:=by
    cases hc:x.okS
    ·rfl
    ·rw [InstV.okS,List.all_eq_true] at hc;rw [hc i (List.mem_range.2 hi)] at hb;cases hb
   have e2:x.ok=false:=by simp [InstV.ok,e1]
   simp only [go_sem,seval,e2]
  ·simp only [go_sem,seval,hw];refine RoundK.step () hi ?_ ?_
   ·intro j hj;rcases Nat.lt_or_ge j i with h | h
    ·exact hI j h
    ·obtain rfl:j=i:=by omega
     exact hb
   ·simp only [go_sem,seval]
 ·intro _ hdx hI;have hdx:decide ((6:Int) < 6)=false:=hdx;have hs:x.okS=true:=List.all_eq_true.2 fun j hj=>hI j (List.mem_range.1 hj)
  have e:x.ok=(within x.no 1 8&&within x.cur 0 2&&within x.mult 1 1024&&within x.add 0 1073741824&&within x.set 0 1073741824&&within x.price 0 1073741824):=by simp [InstV.ok,hs]
  rw [e];clear hI e hs
  repeat' with_reducible first|apply And.intro|exact .dq|refine CallN.pure (by assumption) ?_|refine CallN.pure (h1) ?_|refine CallN.pure (h2) ?_|refine CallN.pure (h3) ?_|refine CallN.pure (h4) ?_|refine CallN.pure (h5) ?_|refine CallN.pure (h6) ?_|refine .splitDN (fun h=>?_) fun h=>?_|refine .splitD (fun h=>?_) fun h=>?_|refine .splitN (fun h=>?_) fun h=>?_|refine .split (fun h=>?_) fun h=>?_|refine .id ?_|refine RoundK.next (by omega) ?_ ?_|exact trivial|simp only [*,go_sem,seval]
  all_goals (simp_all;done)
section
variable {A:Type} {no:A->Int} {ok:A->Bool} {xs:List A}
theorem rises_no {i:Nat} (h:i < xs.length) (hn:risesAt no ok xs i=false):rises no ok xs=false:=by
 cases hc:rises no ok xs
 ·rfl
 ·rw [List.all_eq_true.1 hc i (List.mem_range.2 h)] at hn;cases hn
theorem rises_yes (h:∀ i < xs.length,risesAt no ok xs i=true):rises no ok xs=true:=List.all_eq_true.2 fun i hi=>h i (List.mem_range.1 hi)
theorem rises_next {i:Nat} (hI:∀ j < i,risesAt no ok xs j=true) (h0:risesAt no ok xs i=true):∀ k < i+1,risesAt no ok xs k=true:=fun k hk=>by
 rcases Nat.lt_or_ge k i with h | h
 ·exact hI k h
 ·obtain rfl:k=i:=by omega
  exact h0
end
theorem refRoll_spec (r:RollV) (hl:r.small):Abs.Spec Tryz.prog 68 [] [.agg r.cells] [] (.bool r.okB):=by
 obtain ⟨l1,l2,l3⟩:=hl;simp only [RollV.cells];refine sgo 108 1 [.tmp 2] mixed Tryz.func68 ?_;simp only [go_sem,seval,lml];refine LoopK.count r.ms.length [1] [32] (fun i=>[(3,.int .i64 i)]) (fun i=>[]) (fun i=>∀ j < i,risesAt MemberV.no MemberV.ok r.ms j=true) (by simp) ?_ ?_
 ·simp only [go_sem,seval]<;>simp
 intro i hi hI;simp only [go_sem,seval,lml];refine CondE.splitD (fun h=>?_) (fun h=>?_)
 ·have hi':i < r.ms.length:=by omega
  have hw:IntKind.wrap .i64 ((i:Int)+1)=((i+1:Nat):Int):=by rw [wr64 (by omega) (by omega)];omega
  have hm:=map_at (c:=MemberV.cells) r.ms hi';have h1:=refMember_spec r.ms[i];have e0:=rises_next (i:=i) hI;have e1:risesAt MemberV.no MemberV.ok r.ms i=false->r.okB=false:=fun hx=>by simp [RollV.okB,rises_no hi' hx]
  have hlt:(i:Int) < (r.ms.length:Int):=by omega
  simp only [MemberV.cells] at hm h1;rcases Nat.eq_zero_or_pos i with rfl | hpos
  ·have hk:=risesAt_zero MemberV.no MemberV.ok r.ms hi' (by omega);simp only [go_sem,seval,hm,lml]
   repeat' with_reducible first|apply And.intro|exact .dq|refine CallN.pure (by assumption) ?_|refine CallN.pure (h1) ?_|refine .splitDN (fun h=>?_) fun h=>?_|refine .splitD (fun h=>?_) fun h=>?_|refine .splitN (fun h=>?_) fun h=>?_|refine .split (fun h=>?_) fun h=>?_|refine .id ?_|refine RoundK.next (by omega) ?_ ?_|exact trivial|simp only [*,go_sem,seval]
   all_goals first
    | omega
    | rfl
    | (refine e0 ?_;clear e0 e1;rw [hk];clear hk;simp_all;done)
    | (rw [e1 ?_];clear e0 e1;rw [hk];clear hk;simp_all;done)
  ·obtain ⟨j,rfl⟩:∃ j,i=j+1:=⟨i-1,by omega⟩
   have hj:j < r.ms.length:=by omega
   have hw1:IntKind.wrap .i64 (((j+1:Nat):Int)-1)=(j:Int):=by rw [wr64 (by omega) (by omega)];omega
   have hk:=risesAt_pos MemberV.no MemberV.ok r.ms hi' (by omega);have hmj:=map_at (c:=MemberV.cells) r.ms hj;have hlj:(j:Int) < (r.ms.length:Int):=by omega
   simp only [MemberV.cells] at hmj;simp only [Nat.add_sub_cancel] at hk;simp only [go_sem,seval,hm,lml]
   repeat' with_reducible first|apply And.intro|exact .dq|refine CallN.pure (by assumption) ?_|refine CallN.pure (h1) ?_|refine .splitDN (fun h=>?_) fun h=>?_|refine .splitD (fun h=>?_) fun h=>?_|refine .splitN (fun h=>?_) fun h=>?_|refine .split (fun h=>?_) fun h=>?_|refine .id ?_|refine RoundK.next (by omega) ?_ ?_|exact trivial|simp only [*,go_sem,seval,hmj,lml]
   all_goals first
    | omega
    | rfl
    | (refine e0 ?_;clear e0 e1;rw [hk];clear hk;simp_all;done)
    | (refine e0 ?_;clear e0 e1;rw [hk];clear hk;simp_all;omega)
    | (rw [e1 ?_];clear e0 e1;rw [hk];clear hk;simp_all;done)
    | (rw [e1 ?_];clear e0 e1;rw [hk];clear hk;simp_all;omega)
 have hR1:=rises_yes (fun j (hj:j < r.ms.length)=>hI j (by omega));clear hI;simp only [go_sem,seval,lml];refine LoopK.count r.ns.length [1] [32] (fun i=>[(4,.int .i64 i)]) (fun i=>[]) (fun i=>∀ j < i,risesAt InstV.no InstV.ok r.ns j=true) (by simp) ?_ ?_
 ·simp only [go_sem,seval]<;>simp
 intro i hi hI;simp only [go_sem,seval,lml];refine CondE.splitD (fun h=>?_) (fun h=>?_)
 ·have hi':i < r.ns.length:=by omega
  have hw:IntKind.wrap .i64 ((i:Int)+1)=((i+1:Nat):Int):=by rw [wr64 (by omega) (by omega)];omega
  have hm:=map_at (c:=InstV.cells) r.ns hi';have h1:=refInst_ok_spec r.ns[i];have e0:=rises_next (i:=i) hI;have e1:risesAt InstV.no InstV.ok r.ns i=false->r.okB=false:=fun hx=>by simp [RollV.okB,rises_no hi' hx]
  have hlt:(i:Int) < (r.ns.length:Int):=by omega
  simp only [InstV.cells] at hm h1;rcases Nat.eq_zero_or_pos i with rfl | hpos
  ·have hk:=risesAt_zero InstV.no InstV.ok r.ns hi' (by omega);simp only [go_sem,seval,hm,lml]
   repeat' with_reducible first|apply And.intro|exact .dq|refine CallN.pure (by assumption) ?_|refine CallN.pure (h1) ?_|refine .splitDN (fun h=>?_) fun h=>?_|refine .splitD (fun h=>?_) fun h=>?_|refine .splitN (fun h=>?_) fun h=>?_|refine .split (fun h=>?_) fun h=>?_|refine .id ?_|refine RoundK.next (by omega) ?_ ?_|exact trivial|simp only [*,go_sem,seval]
   all_goals first
    | omega
    | rfl
    | (refine e0 ?_;clear e0 e1;rw [hk];clear hk;simp_all;done)
    | (rw [e1 ?_];clear e0 e1;rw [hk];clear hk;simp_all;done)
  ·obtain ⟨j,rfl⟩:∃ j,i=j+1:=⟨i-1,by omega⟩
   have hj:j < r.ns.length:=by omega
   have hw1:IntKind.wrap .i64 (((j+1:Nat):Int)-1)=(j:Int):=by rw [wr64 (by omega) (by omega)];omega
   have hk:=risesAt_pos InstV.no InstV.ok r.ns hi' (by omega);have hmj:=map_at (c:=InstV.cells) r.ns hj;have hlj:(j:Int) < (r.ns.length:Int):=by omega
   simp only [InstV.cells] at hmj;simp only [Nat.add_sub_cancel] at hk;simp only [go_sem,seval,hm,lml]
   repeat' with_reducible first|apply And.intro|exact .dq|refine CallN.pure (by assumption) ?_|refine CallN.pure (h1) ?_|refine .splitDN (fun h=>?_) fun h=>?_|refine .splitD (fun h=>?_) fun h=>?_|refine .splitN (fun h=>?_) fun h=>?_|refine .split (fun h=>?_) fun h=>?_|refine .id ?_|refine RoundK.next (by omega) ?_ ?_|exact trivial|simp only [*,go_sem,seval,hmj,lml]
   all_goals first
    | omega
    | rfl
    | (refine e0 ?_;clear e0 e1;rw [hk];clear hk;simp_all;done)
    | (refine e0 ?_;clear e0 e1;rw [hk];clear hk;simp_all;omega)
    | (rw [e1 ?_];clear e0 e1;rw [hk];clear hk;simp_all;done)
    | (rw [e1 ?_];clear e0 e1;rw [hk];clear hk;simp_all;omega)
 have hR2:=rises_yes (fun j (hj:j < r.ns.length)=>hI j (by omega));clear hI;simp only [go_sem,seval,lml];refine LoopK.count r.xs.length [1] [32] (fun i=>[(5,.int .i64 i)]) (fun i=>[]) (fun i=>∀ j < i,risesAt AssetV.a AssetV.ok r.xs j=true) (by simp) ?_ ?_
 ·simp only [go_sem,seval]<;>simp
 intro i hi hI;simp only [go_sem,seval,lml];refine CondE.splitD (fun h=>?_) (fun h=>?_)
 ·have hi':i < r.xs.length:=by omega
  have hw:IntKind.wrap .i64 ((i:Int)+1)=((i+1:Nat):Int):=by rw [wr64 (by omega) (by omega)];omega
  have hm:=map_at (c:=AssetV.cells) r.xs hi';have h1:=refAsset_spec r.xs[i];have e0:=rises_next (i:=i) hI;have e1:risesAt AssetV.a AssetV.ok r.xs i=false->r.okB=false:=fun hx=>by simp [RollV.okB,rises_no hi' hx]
  have hlt:(i:Int) < (r.xs.length:Int):=by omega
  simp only [AssetV.cells] at hm h1;rcases Nat.eq_zero_or_pos i with rfl | hpos
  ·have hk:=risesAt_zero AssetV.a AssetV.ok r.xs hi' (by omega);simp only [go_sem,seval,hm,lml]
   repeat' with_reducible first|apply And.intro|exact .dq|refine CallN.pure (by assumption) ?_|refine CallN.pure (h1) ?_|refine .splitDN (fun h=>?_) fun h=>?_|refine .splitD (fun h=>?_) fun h=>?_|refine .splitN (fun h=>?_) fun h=>?_|refine .split (fun h=>?_) fun h=>?_|refine .id ?_|refine RoundK.next (by omega) ?_ ?_|exact trivial|simp only [*,go_sem,seval]
   all_goals first
    | omega
    | rfl
    | (refine e0 ?_;clear e0 e1;rw [hk];clear hk;simp_all;done)
    | (rw [e1 ?_];clear e0 e1;rw [hk];clear hk;simp_all;done)
  ·obtain ⟨j,rfl⟩:∃ j,i=j+1:=⟨i-1,by omega⟩
   have hj:j < r.xs.length:=by omega
   have hw1:IntKind.wrap .i64 (((j+1:Nat):Int)-1)=(j:Int):=by rw [wr64 (by omega) (by omega)];omega
   have hk:=risesAt_pos AssetV.a AssetV.ok r.xs hi' (by omega);have hmj:=map_at (c:=AssetV.cells) r.xs hj;have hlj:(j:Int) < (r.xs.length:Int):=by omega
   simp only [AssetV.cells] at hmj;simp only [Nat.add_sub_cancel] at hk;simp only [go_sem,seval,hm,lml]
   repeat' with_reducible first|apply And.intro|exact .dq|refine CallN.pure (by assumption) ?_|refine CallN.pure (h1) ?_|refine .splitDN (fun h=>?_) fun h=>?_|refine .splitD (fun h=>?_) fun h=>?_|refine .splitN (fun h=>?_) fun h=>?_|refine .split (fun h=>?_) fun h=>?_|refine .id ?_|refine RoundK.next (by omega) ?_ ?_|exact trivial|simp only [*,go_sem,seval,hmj,lml]
   all_goals first
    | omega
    | rfl
    | (refine e0 ?_;clear e0 e1;rw [hk];clear hk;simp_all;done)
    | (refine e0 ?_;clear e0 e1;rw [hk];clear hk;simp_all;omega)
    | (rw [e1 ?_];clear e0 e1;rw [hk];clear hk;simp_all;done)
    | (rw [e1 ?_];clear e0 e1;rw [hk];clear hk;simp_all;omega)
 have hR3:=rises_yes (fun j (hj:j < r.xs.length)=>hI j (by omega));clear hI;simp only [go_sem,seval,lml];have e:r.okB=true:=by simp [RollV.okB,hR1,hR2,hR3]
 rw [e]
theorem refFindInst_spec (r:RollV) (n:Int) (hl:r.small):Abs.Spec Tryz.prog 19 [] [.agg r.cells,.int .i64 n] [] (.tup [.agg (instOf r n).cells,.bool (instIs r n)]):=by
 obtain ⟨l1,l2,l3⟩:=hl;simp only [RollV.cells];refine sgo 28 2 [.cell 4 79,.tmp 5] mixed Tryz.func19 ?_;simp only [go_sem,seval,lml];refine LoopK.walk (S:=Unit) r.ns.length [1,2,4] [48,80] (fun i _=>[(6,.int .i64 i)]) (fun i _=>[]) (fun i _=>∀ j (hj:j < r.ns.length),j < i->r.ns[j].no≠n) () (by intros;omega) ?_ ?_ ?_
 ·simp only [go_sem,seval]<;>simp
 ·intro i _ hi hdi hw hI;have hm:=map_at (c:=InstV.cells) r.ns hi;have hlt:(i:Int) < (r.ns.length:Int):=by omega
  simp only [InstV.cells] at hm |-;simp only [go_sem,seval,lml,hdi,hm];(with_reducible and_intros)<;>first|exact .dq|omega|skip
  cases hb:r.ns[i].no==n
  ·have hb2:r.ns[i].no≠n:=by simpa using hb
   simp only [go_sem,seval,hw];refine RoundK.step () hi ?_ ?_
   ·intro j hj hji;rcases Nat.lt_or_ge j i with h | h
    ·exact hI j hj h
    ·obtain rfl:j=i:=by omega
     exact hb2
   ·simp only [go_sem,seval]
  ·have hb2:r.ns[i].no=n:=by simpa using hb
   obtain ⟨g1,g2⟩:=getL_hit (z:=InstV.zero) hi hI hb2;have e1:instOf r n=r.ns[i]:=g1;have e2:instIs r n=true:=by simp [instIs,g2]
   rw [e1,e2];simp only [go_sem,seval,hm,lml];(with_reducible and_intros)<;>first|exact .dq|omega|skip
 ·intro _ hdx hI;obtain ⟨g1,g2⟩:=getL_miss (z:=InstV.zero) (fun j hj=>hI j hj hj);have e1:instOf r n=InstV.zero:=g1;have e2:instIs r n=false:=by simp [instIs,g2]
  rw [e1,e2];simp only [go_sem,seval,lml,hdx,InstV.cells,InstV.zero]
end Go.Proofs.YtgnhdbdipfncgaaGreat
