/- The reference's engine: Do, and what follows. No theorem of a claim. -/
import Derived.Test.YtgnhdbdipfncgaaGreatKJ
import Derived.Test.YtgnhdbdipfncgaaGreatKK
set_option linter.unusedSimpArgs false
set_option linter.unusedVariables false
set_option maxHeartbeats 4000000
set_option maxRecDepth 16000
namespace Go.Proofs.YtgnhdbdipfncgaaGreat
open Go.Abs
theorem does_spec (s:StateV) (c:CmdV) (h:s.good) (hk:1<=c.kind/\c.kind<=22):Abs.Spec Tryz.prog 31 [] [.agg s.cells,.agg c.cells] [] (.tup [.agg (doesR s c).1.cells,.agg (doesR s c).2.cells]):=by
 rcases (by omega:c.kind=1\/c.kind=2\/c.kind=3\/c.kind=4\/c.kind=5\/c.kind=6\/c.kind=7\/c.kind=8\/c.kind=9\/c.kind=10\/c.kind=11\/c.kind=12\/c.kind=13\/c.kind=14\/c.kind=15\/c.kind=16\/c.kind=17\/c.kind=18\/c.kind=19\/c.kind=20\/c.kind=21\/c.kind=22) with e | e | e | e | e | e | e | e | e | e | e | e | e | e | e | e | e | e | e | e | e | e
 ·exact does_1 s c h e
 ·exact does_2 s c h e
 ·exact does_3 s c h e
 ·exact does_4 s c h e
 ·exact does_5 s c h e
 ·exact does_6 s c h e
 ·exact does_7 s c h e
 ·exact does_8 s c h e
 ·exact does_9 s c h e
 ·exact does_10 s c h e
 ·exact does_11 s c h e
 ·exact does_12 s c h e
 ·exact does_13 s c h e
 ·exact does_14 s c h e
 ·exact does_15 s c h e
 ·exact does_16 s c h e
 ·exact does_17 s c h e
 ·exact does_18 s c h e
 ·exact does_19 s c h e
 ·exact does_20 s c h e
 ·exact does_21 s c h e
 ·exact does_22 s c h e
theorem doesR_err (s:StateV) (c:CmdV) (h:(doesR s c).2.code≠0):doesR s c=(s,.err (doesR s c).2.code):=by
 unfold doesR doesF at h |-;split
 ·rename_i hz;rw [if_pos hz] at h;exact absurd rfl h
 ·rfl
theorem seatP_len (s:StateV) (c:CmdV) (r:ReplyV) (i:Nat):(seatP s c r i).length<=1:=by
 unfold seatP;split
 ·simp
 ·split<;>simp
theorem ref25Do_own (s:StateV) (c:CmdV) (h:s.fine) (hk:(knownR s c).2=false):Abs.Spec Tryz.prog 8 [] [.agg s.cells,.agg c.cells] [.own 7 ((doR s c).1.seats.map SeatV.cells)]
  (.tup [.agg [.int .i64 (doR s c).1.now,.int .i64 (doR s c).1.day,.int .i64 (doR s c).1.phase,.sl 3 ((doR s c).1.roll.ms.map MemberV.cells),.sl 12 ((doR s c).1.roll.ns.map InstV.cells),.sl 4 ((doR s c).1.roll.xs.map AssetV.cells),.int .i64 (doR s c).1.book.next,.sl 7 ((doR s c).1.book.ts.map TradeV.cells),.sl 4 ((doR s c).1.book.qs.map PosV.cells),
    .int .i64 (doR s c).1.led.last,.sl 4 ((doR s c).1.led.bs.map BalV.cells),.sl 3 (pl (doR s c).1.ps),.sl 4 ((doR s c).1.calls.map CallV.cells),.sl 5 ((doR s c).1.bids.map BidV.cells),.ref 0],.agg (doR s c).2.cells]):=by
 have hg:=h.good;have hf:=known_no h.right hk;have hsl:=h.right.lens.seats;have c1:=ref25Known_spec s c hg.small;have c2:=does_spec s c hg (formE_ok hf.1).1;have c3:=twinState_frozen s hg.small;have c4:=fun n=>ref25Seat_spec s n (by omega)
 have c5:=twinReply_frozen _ (doesR_fits (s:=s) (c:=c) h.right.lens);have hse:=fun n=>seatL_ex n s.seats 0 (by omega)
 have herr:=doesR_err s c;have hD:doR s c=({ (doesR s c).1 with seats:=frm (seatP s c (doesR s c).2) 8 },(doesR s c).2):=by unfold doR;rw [hk];rfl
 rw [hD];obtain ⟨K,hK⟩:=nmE ((knownR s c).1);rw [hk,<- hK] at c1;obtain ⟨X,hX⟩:=nmE (doesR s c);rw [<- hX] at c2 c5 herr |-;obtain ⟨T,R⟩:=X;dsimp only at c2 c5 herr |-;clear hk hK hX hD hf;simp only [StateV.cells,CmdV.cells,ReplyV.cells] at c1 c2 c3 c4 c5 |-;refine sgo 69 2 [.cell 4 42,.cell 5 52] mixed Tryz.func8 ?_;simp only [go_sem,seval];(with_reducible and_intros)<;>first|exact .dq|omega|skip
 refine CallN.pure c1 ?_;simp only [go_sem,seval];(with_reducible and_intros)<;>first|exact .dq|omega|skip
 refine CallN.pure c2 ?_
 by_cases b:R.code=0
 case pos =>
  have d:(R.code==0)=true:=by simpa using b
  simp only [go_sem,seval,bne,d];(with_reducible and_intros)<;>first|exact .dq|omega|skip
  refine LoopK.walk (S:=Unit) 8 [2,3,4,5,6,8] [48,64,80,96,144] (fun i _=>[(10,.int .i64 ((i:Int)+1)),(9,.ref 1040)]) (fun i _=>[(112,.box R.cells),(1040,.own 7 ((frm (seatP s c R) i).map SeatV.cells))]) (fun _ _=>True) () trivial ?_ ?_ ?_
  ·simp only [go_sem,seval,ReplyV.cells,frm_zero]<;>simp
  ·intro i _ hi _ _ _;have hd:decide ((i:Int)+1<=8)=true:=decide_eq_true (by omega);have hw:IntKind.wrap .i64 ((i:Int)+1+1)=((i+1:Nat):Int)+1:=by rw [wr64 (by omega) (by omega)];omega
   have hs:=frm_step (seatP s c R) i;have hl:=frm_len (seatP_len s c R) i;obtain ⟨L,hL⟩:=nmE (frm (seatP s c R) i);obtain ⟨k,hk⟩:=nmE ((i:Int)+1);have c4k:=c4 k;have hsk:=hse k;rw [<- hL] at hs hl |-;simp only [seatP,<- hk] at hs;rw [<- hk] at hd hw |-;obtain ⟨v,hv⟩:=nmE (seatL k s.seats 0);rw [<- hv] at hs c4k hsk;clear c4 hse hL hv c1 c2 c3;simp only [ReplyV.cells];simp only [go_sem,seval,hd];(with_reducible and_intros)<;>first|exact .dq|omega|skip
   refine CallN.pure c4k ?_
   by_cases q:k=c.client
   ·have d2:(k==c.client)=true:=by simpa using q
    rw [if_pos q] at hs;simp only [go_sem,seval,d2];(with_reducible and_intros)<;>first|exact .dq|omega|skip
    refine CallN.pure c5 ?_;simp only [go_sem,seval,hw,lml];(with_reducible and_intros)<;>first|exact .dq|omega|skip
    refine RoundK.step () hi trivial ?_;simp only [go_sem,seval,hs]<;>simp
   have d2:(k==c.client)=false:=by simpa using q
   rw [if_neg q] at hs
   by_cases q3:0<=v
   ·obtain ⟨j,hj,e,_⟩:=hsk q3;have hvj:v=(j:Int):=by omega
    subst hvj;have d3:decide (0<=(j:Int))=true:=by simp
    rw [if_pos q3,show seatAt s (j:Int)=s.seats[j] from by simp [seatAt,hj]] at hs;have hm:=map_at (c:=SeatV.cells) s.seats hj;have hlj:(j:Int) < (s.seats.length:Int):=by omega
    obtain ⟨x,hx⟩:=nmE (s.seats[j]);rw [<- hx] at hm hs;simp only [SeatV.cells] at hm;simp only [go_sem,seval,d2,d3,lml,hm,Int.toNat_natCast];(with_reducible and_intros)<;>first|exact .dq|omega|skip
    simp only [go_sem,seval,hw,lml];(with_reducible and_intros)<;>first|exact .dq|omega|skip
    refine RoundK.step () hi trivial ?_;simp only [go_sem,seval,hs]<;>simp
   ·have d3:decide (0<=v)=false:=by simpa using q3
    rw [if_neg q3,List.append_nil] at hs;simp only [go_sem,seval,d2,d3,hw];(with_reducible and_intros)<;>first|exact .dq|omega|skip
    refine RoundK.step () hi trivial ?_;simp only [go_sem,seval,hs]<;>simp
  ·intro _ _ _;have hdx:decide (((8:Nat):Int)+1<=8)=false:=by decide
   simp only [ReplyV.cells];simp only [go_sem,seval,hdx];(with_reducible and_intros)<;>first|exact .dq|omega|skip
 have d:(R.code==0)=false:=by simpa using b
 have hTR:=herr b;simp only [Prod.mk.injEq] at hTR;obtain ⟨rfl,hR⟩:=hTR;simp only [go_sem,seval,bne,d];(with_reducible and_intros)<;>first|exact .dq|omega|skip
 refine CallN.pure c3 ?_;simp only [go_sem,seval];(with_reducible and_intros)<;>first|exact .dq|omega|skip
 refine LoopK.walk (S:=Unit) 8 [2,3,4,5,6,8] [48,64,80,96,144] (fun i _=>[(10,.int .i64 ((i:Int)+1)),(9,.ref 1040)]) (fun i _=>[(112,.box R.cells),(1040,.own 7 ((frm (seatP T c R) i).map SeatV.cells))]) (fun _ _=>True) () trivial ?_ ?_ ?_
 ·have r1:R.no=0:=by rw [hR];rfl
  have r2:R.amt=0:=by rw [hR];rfl
  have r3:R.dues=[]:=by rw [hR];rfl
  have r4:R.falls=[]:=by rw [hR];rfl
  simp only [go_sem,seval,ReplyV.cells,frm_zero,r1,r2,r3,r4,List.map_nil]<;>simp
 ·intro i _ hi _ _ _;have hd:decide ((i:Int)+1<=8)=true:=decide_eq_true (by omega);have hw:IntKind.wrap .i64 ((i:Int)+1+1)=((i+1:Nat):Int)+1:=by rw [wr64 (by omega) (by omega)];omega
  have hs:=frm_step (seatP T c R) i;have hl:=frm_len (seatP_len T c R) i;obtain ⟨L,hL⟩:=nmE (frm (seatP T c R) i);obtain ⟨k,hk⟩:=nmE ((i:Int)+1);have c4k:=c4 k;have hsk:=hse k;rw [<- hL] at hs hl |-;simp only [seatP,<- hk] at hs;rw [<- hk] at hd hw |-;obtain ⟨v,hv⟩:=nmE (seatL k T.seats 0);rw [<- hv] at hs c4k hsk;clear c4 hse hL hv c1 c2 c3;simp only [ReplyV.cells];simp only [go_sem,seval,hd];(with_reducible and_intros)<;>first|exact .dq|omega|skip
  refine CallN.pure c4k ?_
  by_cases q:k=c.client
  ·have d2:(k==c.client)=true:=by simpa using q
   rw [if_pos q] at hs;simp only [go_sem,seval,d2];(with_reducible and_intros)<;>first|exact .dq|omega|skip
   refine CallN.pure c5 ?_;simp only [go_sem,seval,hw,lml];(with_reducible and_intros)<;>first|exact .dq|omega|skip
   refine RoundK.step () hi trivial ?_;simp only [go_sem,seval,hs]<;>simp
  have d2:(k==c.client)=false:=by simpa using q
  rw [if_neg q] at hs
  by_cases q3:0<=v
  ·obtain ⟨j,hj,e,_⟩:=hsk q3;have hvj:v=(j:Int):=by omega
   subst hvj;have d3:decide (0<=(j:Int))=true:=by simp
   rw [if_pos q3,show seatAt T (j:Int)=T.seats[j] from by simp [seatAt,hj]] at hs;have hm:=map_at (c:=SeatV.cells) T.seats hj;have hlj:(j:Int) < (T.seats.length:Int):=by omega
   obtain ⟨x,hx⟩:=nmE (T.seats[j]);rw [<- hx] at hm hs;simp only [SeatV.cells] at hm;simp only [go_sem,seval,d2,d3,lml,hm,Int.toNat_natCast];(with_reducible and_intros)<;>first|exact .dq|omega|skip
   simp only [go_sem,seval,hw,lml];(with_reducible and_intros)<;>first|exact .dq|omega|skip
   refine RoundK.step () hi trivial ?_;simp only [go_sem,seval,hs]<;>simp
  ·have d3:decide (0<=v)=false:=by simpa using q3
   rw [if_neg q3,List.append_nil] at hs;simp only [go_sem,seval,d2,d3,hw];(with_reducible and_intros)<;>first|exact .dq|omega|skip
   refine RoundK.step () hi trivial ?_;simp only [go_sem,seval,hs]<;>simp
 ·intro _ _ _;have hdx:decide (((8:Nat):Int)+1<=8)=false:=by decide
  simp only [ReplyV.cells];simp only [go_sem,seval,hdx];(with_reducible and_intros)<;>first|exact .dq|omega|skip
theorem ref25Do_spec (s:StateV) (c:CmdV) (h:s.fine):Abs.Spec Tryz.prog 8 [] [.agg s.cells,.agg c.cells] [] (.tup [.agg (doR s c).1.cells,.agg (doR s c).2.cells]):=by
 cases hk:(knownR s c).2
 ·refine Spec.frozen (ref25Do_own s c h hk) [0] rfl ?_;intro r;rcases r with _ | r<;>rfl
 ·have c1:=ref25Known_spec s c h.good.small;have hD:doR s c=(s,(knownR s c).1):=by unfold doR;rw [hk];rfl
  rw [hD];rw [hk] at c1;obtain ⟨K,hK⟩:=nmE ((knownR s c).1);rw [<- hK] at c1 |-;simp only [StateV.cells,CmdV.cells,ReplyV.cells] at c1 |-;refine sgo 69 2 [.cell 4 42,.cell 5 52] mixed Tryz.func8 ?_;simp only [go_sem,seval];(with_reducible and_intros)<;>first|exact .dq|omega|skip
  refine CallN.pure c1 ?_;simp only [go_sem,seval];(with_reducible and_intros)<;>first|exact .dq|omega|skip
def clientN (c:CmdV):Int:=c.client%8+1
def numC (q:List Int) (c:CmdV):CmdV:={ c with client:=clientN c,seq:=q.getD (clientN c).toNat 0+1 }
def growS (x:StateV × List Int) (c:CmdV):StateV × List Int:=
 ((doR x.1 (numC x.2 c)).1,if (doR x.1 (numC x.2 c)).2.code=6\/(doR x.1 (numC x.2 c)).2.code=21 then x.2 else x.2.set (clientN c).toNat (x.2.getD (clientN c).toNat 0+1))
def growG:List CmdV->StateV × List Int->StateV × List Int
 | [],x=>x
 | c :: r,x=>growG r (growS x c)
def growR (l:List CmdV):StateV:=(growG (l.take 200) (StateV.zero,List.replicate 9 0)).1
structure growOk (x:StateV × List Int) (i:Nat):Prop where
 fine:x.1.fine
 paper:paperP x.1
 len:x.2.length=9
 num:∀ v∈x.2,0<=v/\v<=i
theorem client_rng (c:CmdV):1<=clientN c/\clientN c<=8:=by unfold clientN;omega
theorem getD_mem {q:List Int} {k:Nat} (h:k < q.length):q.getD k 0∈q:=by
 rw [List.getD_eq_getElem?_getD,List.getElem?_eq_getElem h];exact List.getElem_mem h
theorem growS_ok {x:StateV × List Int} {i:Nat} (c:CmdV) (h:growOk x i):growOk (growS x c) (i+1):=by
 have hc:=client_rng c;have hl:=h.len;refine ⟨doR_fine h.fine,doR_paper h.fine.right h.paper,?_,?_⟩
 ·unfold growS;dsimp only;split
  ·exact hl
  ·rw [List.length_set];exact hl
 ·unfold growS;dsimp only;split
  ·intro v hv;have:=h.num v hv;omega
  ·intro v hv;rcases List.mem_or_eq_of_mem_set hv with hv | rfl
   ·have:=h.num v hv;omega
   ·have:=h.num _ (getD_mem (q:=x.2) (k:=(clientN c).toNat) (by omega));omega
theorem grow0:growOk (StateV.zero,List.replicate 9 0) 0:=⟨zero_fine,fun c _=>rfl,by simp,fun v hv=>by
 have:=List.eq_of_mem_replicate hv
 omega⟩
theorem growG_ok:∀ (l:List CmdV) (x:StateV × List Int) (i:Nat),growOk x i->growOk (growG l x) (i+l.length)
 | [],_,_,h=>h
 | c :: r,x,i,h=>by
  have:=growG_ok r _ _ (growS_ok c h);simp only [growG,List.length_cons]
  rwa [show i+(r.length+1)=i+1+r.length by omega]
theorem growR_ok (l:List CmdV):(growR l).fine/\paperP (growR l):=by
 have:=growG_ok (l.take 200) _ 0 grow0;exact ⟨this.fine,this.paper⟩
def ql (q:List Int):List D:=q.map fun x=>.int .i64 x
theorem ql_len (q:List Int):(ql q).length=q.length:=by simp [ql]
theorem ql_leaf (q:List Int):∀ d∈ql q,leafB d=true:=by simp [ql,leafB]
theorem ql_at {q:List Int} {k:Nat} (h:k < q.length):((ql q).drop k).headD .undef=.int .i64 (q.getD k 0):=by
 rw [List.drop_eq_getElem_cons (by rw [ql_len];exact h)];simp [ql,h]
theorem ql_set {q:List Int} {k:Nat} (h:k < q.length) (v:Int):(ql q).take k++.int .i64 v :: (ql q).drop (k+1)=ql (q.set k v):=by
 unfold ql;rw [<- List.map_take,<- List.map_drop,List.set_eq_take_append_cons_drop,if_pos h];simp
theorem client_eq (n:Int):IntKind.wrap .i64 (1+IntKind.wrap .i64 ((IntKind.wrap .u64 n).tmod 8))=n%8+1:=by
 have h:IntKind.wrap .u64 n=n%18446744073709551616:=by rw [IntKind.wrap_u64]
 rw [h,Int.tmod_eq_emod_of_nonneg (by omega),wr64 (x:=n%18446744073709551616%8) (by omega) (by omega),wr64 (by omega) (by omega)];omega
theorem grown_spec (l:List CmdV) (hlen:l.length<=1000):Abs.Spec Tryz.prog 14 [] [.sl 17 (l.map CmdV.cells)] [] (.agg (growR l).cells):=by
 obtain ⟨R,hR⟩:=nmE (growG (l.take 200) (StateV.zero,List.replicate 9 0));have hgr:growR l=R.1:=by rw [hR];rfl
 rw [hgr];clear hgr;obtain ⟨L,hL⟩:=nmE (l.take 200);rw [<- hL] at hR;obtain ⟨n,hn⟩:=nmE (L.length)
 have hn2:n<=l.length/\n<=200/\(n=l.length\/n=200):=by
  rw [hn,hL,List.length_take];omega
 have hat:∀ i (h1:i < L.length) (h2:i < l.length),L[i]=l[i]:=fun i h1 h2=>by
  subst hL;simp
 clear hL;refine sgo 59 1 [.cell 2 42] mixed Tryz.func14 ?_;simp only [go_sem,seval,lml];(with_reducible and_intros)<;>first|exact .dq|omega|skip
 refine LoopK.walk (S:=StateV × List Int) n [0,2,3,4] [48] (fun i _=>[(5,.int .i64 i)]) (fun i x=>[(64,.box x.1.cells),(80,.box (ql x.2))]) (fun i x=>growG (L.drop i) x=R/\growOk x i) (StateV.zero,List.replicate 9 0) ⟨hR.symm,grow0⟩ ?_ ?_ ?_
 ·have hz:ql (List.replicate 9 0)=[.int .i64 0,.int .i64 0,.int .i64 0,.int .i64 0,.int .i64 0,.int .i64 0,.int .i64 0,.int .i64 0,.int .i64 0]:=rfl;simp only [go_sem,seval,StateV.cells,StateV.zero,hz,pl];exact leDL_leaf (by simp [leafB])
 ·intro i x hi hdi hwi hI;obtain ⟨hI,hx⟩:=hI;rw [drop_at (by omega:i < L.length),hat i (by omega) (by omega)] at hI;have hm:=map_at (c:=CmdV.cells) l (by omega:i < l.length);have hd1:decide ((i:Int) < (l.length:Int))=true:=decide_eq_true (by omega);have hd2:decide ((i:Int) < 200)=true:=decide_eq_true (by omega);have hli:(i:Int) < (l.length:Int):=by omega
  obtain ⟨c,hc⟩:=nmE (l[i]);rw [<- hc] at hm hI;simp only [growG] at hI;have hnext:=growS_ok c hx;obtain ⟨s,q⟩:=x;have hq9:q.length=9:=hx.len;have hcl:=client_rng c;have hce:=client_eq c.client;have hqn:=hx.num _ (getD_mem (q:=q) (k:=(clientN c).toNat) (by omega));have hDo:=ref25Do_spec s (numC q c) hx.fine;have hs1:growS (s,q) c=((doR s (numC q c)).1,if (doR s (numC q c)).2.code=6\/(doR s (numC q c)).2.code=21 then q else q.set (clientN c).toNat (q.getD (clientN c).toNat 0+1)):=rfl;rw [hs1] at hI hnext;obtain ⟨Z,hZ⟩:=nmE (doR s (numC q c));rw [<- hZ] at hDo hI hnext;clear hZ hs1;obtain ⟨T,P⟩:=Z;dsimp only at hDo hI hnext |-;simp only [numC] at hDo;obtain ⟨m,hm0⟩:=nmE (clientN c);have hce:IntKind.wrap .i64 (1+IntKind.wrap .i64 ((IntKind.wrap .u64 c.client).tmod 8))=m:=by rw [hm0];exact hce
  rw [<- hm0] at hDo hI hnext hcl hqn;have hld:=ql_at (q:=q) (k:=m.toNat) (by omega);have hst:=ql_set (q:=q) (k:=m.toNat) (by omega);have hql:=ql_len q;obtain ⟨v,hv⟩:=nmE (q.getD m.toNat 0);rw [<- hv] at hDo hI hnext hqn hld;have hw1:IntKind.wrap .i64 (v+1)=v+1:=wr64 (by omega) (by omega);have hm9:m < 9:=by omega
  clear hR hat hv hm0 hx;obtain ⟨B,hB⟩:=nmE (ql q);rw [<- hB] at hld hst hql |-;clear hc;simp only [StateV.cells,CmdV.cells,ReplyV.cells] at hDo hm |-;simp only [go_sem,seval,lml,hd1,hd2,hm,Int.toNat_natCast,hce,hld,hw1,hql,Nat.mul_one];(with_reducible and_intros)<;>first|exact .dq|omega|skip
  refine CallN.pure hDo ?_
  by_cases k6:P.code=6
  ·have d6:(P.code==6)=true:=by simpa using k6
   rw [if_pos (.inl k6)] at hI hnext;simp only [go_sem,seval,bne,d6,hwi];(with_reducible and_intros)<;>first|exact .dq|omega|skip
   refine RoundK.step (T,q) hi ⟨hI,hnext⟩ ?_;simp only [go_sem,seval,StateV.cells,<- hB];exact leDL_leaf (by rw [hB];exact ql_leaf q)
  have d6:(P.code==6)=false:=by simpa using k6
  by_cases k21:P.code=21
  ·have d21:(P.code==21)=true:=by simpa using k21
   rw [if_pos (.inr k21)] at hI hnext;simp only [go_sem,seval,bne,d6,d21,hwi];(with_reducible and_intros)<;>first|exact .dq|omega|skip
   refine RoundK.step (T,q) hi ⟨hI,hnext⟩ ?_;simp only [go_sem,seval,StateV.cells,<- hB];exact leDL_leaf (by rw [hB];exact ql_leaf q)
  have d21:(P.code==21)=false:=by simpa using k21
  rw [if_neg (by omega)] at hI hnext;simp only [go_sem,seval,bne,d6,d21,hwi,hld,hw1,hql,Nat.mul_one];(with_reducible and_intros)<;>first|exact .dq|omega|skip
  refine RoundK.step (T,q.set m.toNat (v+1)) hi ⟨hI,hnext⟩ ?_;have hst2:List.take m.toNat B++[.int .i64 (v+1)]++List.drop (m.toNat+1) B=ql (q.set m.toNat (v+1)):=by rw [<- hst];simp
  simp only [go_sem,seval,StateV.cells,hst,hst2];exact leDL_leaf (ql_leaf _)
 ·intro x hdx hI;have hI:=hI.1;rw [hn,List.drop_length] at hI;have hI:x=R:=hI;subst hI;rcases hn2.2.2 with e | e
  ·have hd1:decide ((n:Int) < (l.length:Int))=false:=decide_eq_false (by omega);simp only [StateV.cells];simp only [go_sem,seval,lml,hd1]
  ·have hd2:decide ((n:Int) < 200)=false:=decide_eq_false (by omega);simp only [StateV.cells];cases hd1:decide ((n:Int) < (l.length:Int))
   ·simp only [go_sem,seval,lml,hd1]
   ·simp only [go_sem,seval,lml,hd1,hd2]
theorem fit_CmdV (r:List D) (h:FitL [.int .i64,.int .i64,.int .i64,.int .i64,.int .i64,.int .i64,.int .i64,.int .i64,.int .i64,.int .i64,.int .i64,.int .i64,.int .i64,.int .i64,.int .i64,.int .i64,.int .i64] r):∃ x:CmdV,True/\r=x.cells:=by
 simp only [FitL,Fit] at h;obtain ⟨_,_,rfl,⟨a0,rfl,r0⟩,_,_,rfl,⟨a1,rfl,r1⟩,_,_,rfl,⟨a2,rfl,r2⟩,_,_,rfl,⟨a3,rfl,r3⟩,_,_,rfl,⟨a4,rfl,r4⟩,_,_,rfl,⟨a5,rfl,r5⟩,_,_,rfl,⟨a6,rfl,r6⟩,_,_,rfl,⟨a7,rfl,r7⟩,_,_,rfl,⟨a8,rfl,r8⟩,_,_,rfl,⟨a9,rfl,r9⟩,_,_,rfl,⟨a10,rfl,r10⟩,_,_,rfl,⟨a11,rfl,r11⟩,_,_,rfl,⟨a12,rfl,r12⟩,_,_,rfl,⟨a13,rfl,r13⟩,_,_,rfl,⟨a14,rfl,r14⟩,_,_,rfl,⟨a15,rfl,r15⟩,_,_,rfl,⟨a16,rfl,r16⟩,rfl⟩:=h;exact ⟨⟨a0,a1,a2,a3,a4,a5,a6,a7,a8,a9,a10,a11,a12,a13,a14,a15,a16⟩,trivial,rfl⟩
end Go.Proofs.YtgnhdbdipfncgaaGreat
