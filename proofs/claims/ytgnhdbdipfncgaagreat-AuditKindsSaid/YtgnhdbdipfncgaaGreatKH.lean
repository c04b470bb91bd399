/- The reference's close: the whole, and what follows. No theorem of a claim. -/
import Derived.Test.YtgnhdbdipfncgaaGreatKG
import Derived.Test.YtgnhdbdipfncgaaGreatKE
set_option linter.unusedSimpArgs false
set_option linter.unusedVariables false
set_option maxHeartbeats 4000000
set_option maxRecDepth 16000
namespace Go.Proofs.YtgnhdbdipfncgaaGreat
open Go.Abs
def tab {A:Type} (f:Nat->A) (n:Nat):List A:=(List.range n).map f
theorem tab_zero {A:Type} (f:Nat->A):tab f 0=[]:=rfl
theorem tab_step {A:Type} (f:Nat->A) (n:Nat):tab f (n+1)=tab f n++[f n]:=by simp [tab,List.range_succ]
theorem tab_len {A:Type} (f:Nat->A) (n:Nat):(tab f n).length=n:=by simp [tab]
def firstE3 (f:Nat->Int):Nat->Nat->Int
 | 0,_=>0
 | m+1,i=>if f i=0 then firstE3 f m (i+1) else f i
def StateV.zero:StateV:=⟨0,0,0,⟨[],[],[]⟩,⟨0,[],[]⟩,⟨0,[]⟩,[],[],[],[]⟩
def outGain (s:StateV) (w:Int) (c:Nat):Int:=grossN w c (posnD s w)
def outGE (s:StateV) (w:Int) (c:Nat):Int:=grossE w c (posnD s w)
def outCaps (s:StateV) (w:Int) (c:Nat):List Int:=capsL s w c (outGain s w c)
def outFall (s:StateV) (w:Int) (c:Nat):FallV:=fallR c (capsN s w c (outGain s w c)) (outCaps s w c)
def outCE (s:StateV) (w:Int) (c:Nat):Int:=if capsE s w c (outGain s w c)=0 then fallE c (capsN s w c (outGain s w c)) (outCaps s w c) else capsE s w c (outGain s w c)
def outChg (s:StateV) (w:Int) (c:Nat):List LegV × Int × Int:=chargeR s w c (outGain s w c) (outFall s w c) ((outCaps s w c).getD 0 0) ((outCaps s w c).getD 1 0)
def nextId (l:LedV):Int:=IntKind.wrap .i64 (l.last+1)
def postIf (l:LedV) (g:List LegV) (e:Int):LedV × Int:=if e=0/\g≠[] then (postL l (nextId l) g,postE l (nextId l) g) else (l,e)
def paidIf (w:Int) (c:Nat) (n:Int):List DueV:=if n==0 then [] else [⟨w,c,n⟩]
def outG (s:StateV) (w:Int):Nat->Nat->LedV->List DueV->LedV × List DueV × Int
 | 0,_,l,p=>(l,p,0)
 | m+1,i,l,p =>
  if (postIf l (outChg s w i).1 (outChg s w i).2.2).2=0 then outG s w m (i+1) (postIf l (outChg s w i).1 (outChg s w i).2.2).1 (p++paidIf w i (outChg s w i).2.1)
  else (l,p,(postIf l (outChg s w i).1 (outChg s w i).2.2).2)
def keepPl (w:Int) (l:List Plg):List Plg:=l.flatMap fun p=>if p.who==w then [] else [p]
def keepBd (w:Int) (l:List BidV):List BidV:=l.flatMap fun b=>if b.who==w||b.src==w then [] else [b]
def outE (s:StateV) (w:Int):Int:=
 if posnE s w=0 then (if firstE3 (outGE s w) 3 0=0 then (if firstE3 (outCE s w) 3 0=0 then (outG s w 3 0 s.led []).2.2 else firstE3 (outCE s w) 3 0) else firstE3 (outGE s w) 3 0) else posnE s w
def outS (s:StateV) (w:Int):StateV:=
 if outE s w=0 then { s with roll:=putR s.roll w 3,book:=posnB s w,led:=(outG s w 3 0 s.led []).1,ps:=keepPl w s.ps,calls:=withoutL s.calls [w],bids:=keepBd w s.bids } else .zero
def outF (s:StateV) (w:Int):List FallV:=if outE s w=0 then tab (outFall s w) 3 else []
def outD (s:StateV) (w:Int):List DueV:=if outE s w=0 then (outG s w 3 0 s.led []).2.1 else []
theorem winsL_len (s:StateV) (w:Int) (l:List PosV):(winsL s w l).length<=l.length:=by
 have:=fm_len (f:=winD s w) (m:=1) (fun p=>by unfold winD;split<;>simp) l;simpa [winsL] using this
theorem posnD_len (s:StateV) (w:Int) (h:s.rng) (hs:s.small) (hq:s.book.qs.length < 2 ^ 20):(posnD s w).length < 2 ^ 20:=by
 unfold posnD;split
 ·rename_i he;unfold posnE at he;split at he
  ·rename_i hm;have hb:=(right_parts (mayE_ok hm).1).2.1;have:=(posG_fine (s:=s) (w:=w) 8 0 (book_fine hb hs.book hq h.qs)).short;have h2:=winsL_len s w (posG s w 8 0 s.book).1.qs;omega
  ·rename_i hm;exact absurd he hm
 ·simp
theorem capsL_two {s:StateV} {w c g:Int} (h:capsE s w c g=0):∃ a b rest,capsL s w c g=a :: b :: rest/\rest.length=3:=by
 refine ⟨_,_,_,by rw [capsL,if_pos h],rfl⟩
theorem fall_two {c loss:Int} {caps:List Int} {a b:Int} {rest:List Int} (h:fallE c loss caps=0) (hc:caps=a :: b :: rest):I64 (a-(fallR c loss caps).c0)/\I64 (b-(fallR c loss caps).c1):=by
 simp only [fallR,if_pos h,fallOf];unfold fallE at h;split at h
 ·rename_i hk;simp only [bae,beq_iff_eq] at hk;have hg:=hk.2.2;unfold greE at hg;split at hg
  ·rename_i h1;simp only [bae,Bool.not_eq_true',decide_eq_false_iff_not] at h1;split at hg
   ·rename_i h2;have ha:=List.all_eq_true.1 h1.2 a (by rw [hc];simp);have hb:=List.all_eq_true.1 h1.2 b (by rw [hc];simp);have ha2:=List.all_eq_true.1 h2 a (by rw [hc];simp);have hb2:=List.all_eq_true.1 h2 b (by rw [hc];simp);simp only [Bool.not_eq_true',decide_eq_false_iff_not] at ha2 hb2;have ha:=inR_iff.1 ha;have hb:=inR_iff.1 hb;rw [hc];simp only [greL,List.getD_cons_zero,List.getD_cons_succ];exact ⟨⟨by omega,by omega⟩,⟨by omega,by omega⟩⟩
   ·cases hg
  ·cases hg
 ·cases h
theorem firstE3_at {f:Nat->Int}:∀ {m i:Nat},firstE3 f m i=0->∀ c,i<=c->c < i+m->f c=0
 | 0,i,_,c,h1,h2=>by omega
 | m+1,i,h,c,h1,h2=>by
  simp only [firstE3] at h;split at h
  ·rename_i h0;rcases Nat.lt_or_ge i c with h3 | h3
   ·exact firstE3_at h c (by omega) (by omega)
   ·obtain rfl:c=i:=by omega
    exact h0
  ·rename_i h0;exact absurd h h0
theorem postL_fine {l:LedV} {id:Int} {g:List LegV}:(postL l id g).bs.length<=306/\∀ b∈(postL l id g).bs,b.rng:=by
 unfold postL;split
 ·rename_i h;refine ⟨Nat.le_trans (pstA_len _ _ _) allA_len,?_⟩
  have hin:pstIn l g allA=true:=by
   unfold postE at h;split at h
   ·split at h
    ·split at h
     ·cases h
     ·split at h
      ·split at h
       ·assumption
       ·cases h
      ·rename_i h2;exact absurd h h2
    ·cases h
   ·cases h
  intro b hb;obtain ⟨a,ha,hb⟩:=List.mem_flatMap.1 hb;unfold balN at hb;split at hb
  ·cases hb
  ·obtain rfl:=List.mem_singleton.1 hb;have hs:=List.all_eq_true.1 hin a ha
   have har:I64 a.kind/\I64 a.who/\I64 a.cur:=by
    obtain ⟨k,hk,ha⟩:=List.mem_flatMap.1 ha;obtain ⟨w,hw,ha⟩:=List.mem_flatMap.1 ha;obtain ⟨c,hc,ha⟩:=List.mem_flatMap.1 ha;have h1:=List.mem_range.1 hk;have h2:=List.mem_range.1 hw;have h3:=List.mem_range.1 hc;unfold acc at ha;split at ha
    ·obtain rfl:=List.mem_singleton.1 ha;exact ⟨⟨by dsimp only;omega,by dsimp only;omega⟩,⟨by dsimp only;omega,by dsimp only;omega⟩,⟨by dsimp only;omega,by dsimp only;omega⟩⟩
    ·cases ha
   exact ⟨har.1,har.2.1,har.2.2,i64_of hs⟩
 ·exact ⟨by simp,by simp⟩
def LedV.fine (l:LedV):Prop:=l.bs.length < 2 ^ 29/\(∀ b∈l.bs,b.rng)/\I64 l.last
theorem postE_id {l:LedV} {id:Int} {g:List LegV} (h:postE l id g=0):1<=id/\id<=1099511627776:=by
 unfold postE at h;split at h
 ·split at h
  ·rename_i h1;simpa [within] using h1
  ·cases h
 ·cases h
theorem postL_led {l:LedV} {id:Int} {g:List LegV}:(postL l id g).fine:=by
 refine ⟨Nat.lt_of_le_of_lt postL_fine.1 (by decide),postL_fine.2,?_⟩;unfold postL;split
 ·rename_i h;have:=postE_id h;exact ⟨by dsimp only;omega,by dsimp only;omega⟩
 ·exact ⟨by decide,by decide⟩
theorem postIf_fine {l:LedV} (h:l.fine) (g:List LegV) (e:Int):(postIf l g e).1.fine:=by
 unfold postIf;split
 ·exact postL_led
 ·exact h
theorem keepPl_len (w:Int) (l:List Plg):(keepPl w l).length<=l.length:=by
 have:=fm_len (f:=fun p:Plg=>if p.who==w then [] else [p]) (m:=1) (fun p=>by split<;>simp) l;simpa [keepPl] using this
theorem keepBd_len (w:Int) (l:List BidV):(keepBd w l).length<=l.length:=by
 have:=fm_len (f:=fun b:BidV=>if b.who==w||b.src==w then [] else [b]) (m:=1) (fun p=>by split<;>simp) l;simpa [keepBd] using this
def capRows (l:List (List Int)):List (List D):=l.map fun x=>[.sl 1 (ints x)]
theorem capRows_len (l:List (List Int)):(capRows l).length=l.length:=by simp [capRows]
theorem capRows_at (l:List (List Int)) {i:Nat} (h:i < l.length):(capRows l).getD i []=[.sl 1 (ints l[i])]:=by simp [capRows,h]
theorem refOut_own (s:StateV) (w:Int) (hs:s.small) (hr:s.rng) (hm:s.roll.ms.length < 2 ^ 27) (hq:s.book.qs.length < 2 ^ 20) (hbl:s.bids.length < 2 ^ 20) (hlb:s.led.bs.length < 2 ^ 29) :
  Abs.Spec Tryz.prog 111 [] [.agg s.cells,.int .i64 w] [.own 3 (pl (outS s w).ps),.own 5 ((outS s w).bids.map BidV.cells),.own 8 ((outF s w).map FallV.cells),.own 3 ((outD s w).map DueV.cells)]
   (.tup [.agg [.int .i64 (outS s w).now,.int .i64 (outS s w).day,.int .i64 (outS s w).phase,.sl 3 ((outS s w).roll.ms.map MemberV.cells),.sl 12 ((outS s w).roll.ns.map InstV.cells),.sl 4 ((outS s w).roll.xs.map AssetV.cells),.int .i64 (outS s w).book.next,.sl 7 ((outS s w).book.ts.map TradeV.cells),.sl 4 ((outS s w).book.qs.map PosV.cells),
    .int .i64 (outS s w).led.last,.sl 4 ((outS s w).led.bs.map BalV.cells),.ref 0,.sl 4 ((outS s w).calls.map CallV.cells),.ref 1,.sl 7 ((outS s w).seats.map SeatV.cells)],.ref 2,.ref 3,.int .i64 (outE s w)]):=by
 have c1:=refPositions_spec s w hs hr hq hbl;have c2:=twinState_frozen s hs;have hDl:=posnD_len s w hr hs hq;have cG:=fun c=>refGross_spec w c (posnD s w) (by omega)
 have cC:=fun c g=>refCaps_spec s w c g hs hr hm
 have cF:=fun c loss caps h=>refFall_spec c loss caps h
 have cX:=fun c g f caps a b rest h1 h2=>refCharge_spec s w c g f caps a b rest h1 h2 hs hr hm
 have cP:=fun l id g (h1:l.bs.length < 2 ^ 30) h2 h3=>ref8Post_spec l id g h1 h2 h3
 have cPut:=refPut_spec s.roll w 3 hs.roll;have cW:=refWithout_spec s.calls [w] hs.calls (by simp)
 have hpE:posnE s w=0->rightS s=true:=fun h=>by
  unfold posnE at h;split at h
  ·rename_i hm;exact (mayE_ok hm).1
  ·rename_i hm;exact absurd h hm
 obtain ⟨E,hE⟩:=nmE (outE s w);have hE0:=hE;simp only [outE] at hE;simp only [outS,outF,outD,<- hE0];obtain ⟨pe,hpe⟩:=nmE (posnE s w);rw [<- hpe] at c1 hpE hE;simp only [StateV.cells] at c1 c2 cC cX |-;simp only [BookV.cells] at c1;simp only [LedV.cells] at cP;simp only [RollV.cells] at cPut;simp only [FallV.cells] at cF cX;simp only [ints,List.map_cons,List.map_nil] at cW;clear hE0;refine sgo 241 2 [.cell 4 42,.tmp 5,.tmp 6,.tmp 7] mixed Tryz.func111 ?_;simp only [go_sem,seval];(with_reducible and_intros)<;>first|exact .dq|omega|skip
 refine CallN.pure c1 ?_;clear c1
 by_cases b1:pe=0
 case neg =>
  have d:(pe==0)=false:=by simpa using b1
  rw [if_neg b1] at hE;rw [hE];simp only [if_neg b1];simp only [go_sem,seval,bne,d];(with_reducible and_intros)<;>first|exact .dq|omega|skip
  all_goals simp [StateV.zero,pl]
 obtain ⟨hroll,_,_,hps,_⟩:=right_parts (hpE b1);have cX:=fun c g f caps a b rest h1 h2=>cX c g f caps a b rest h1 h2 hroll hps
 rw [if_pos b1] at hE;rw [b1];clear hpE hpe b1;simp only [go_sem,seval];(with_reducible and_intros)<;>first|exact .dq|omega|skip
 refine CallN.pure c2 ?_;clear c2;simp only [go_sem,seval];(with_reducible and_intros)<;>first|exact .dq|omega|skip
 obtain ⟨F1,hF1⟩:=nmE (firstE3 (outGE s w) 3 0);rw [<- hF1] at hE;refine LoopK.walk (S:=Unit) 3 [1,2,4,8,9,10,12,13,14] [48,80,144,160,208] (fun i _=>[(16,.int .i64 i),(15,.ref 1024)]) (fun i _=>[(1024,.own 1 (ints (tab (outGain s w) i)))]) (fun i _=>firstE3 (outGE s w) (3-i) i=F1) () hF1.symm ?_ ?_ ?_
 ·simp only [go_sem,seval,tab_zero]<;>simp [ints]
 ·intro c _ hc hdc hwc hI;have hdc:decide ((c:Int) < 3)=true:=hdc;obtain ⟨m,hm⟩:∃ m,3-c=m+1:=⟨3-c-1,by omega⟩
  have hm2:3-(c+1)=m:=by omega
  rw [hm] at hI;simp only [firstE3] at hI;have cGc:=cG c;have e1:grossE w c (posnD s w)=outGE s w c:=rfl;have e2:grossN w c (posnD s w)=outGain s w c:=rfl;rw [e1,e2] at cGc;have hst:=tab_step (outGain s w) c;have hlen:=tab_len (outGain s w) c;have hstI:ints (tab (outGain s w) (c+1))=ints (tab (outGain s w) c)++[[.int .i64 (outGain s w c)]]:=by rw [hst];simp only [ints,List.map_append,List.map_cons,List.map_nil]
  obtain ⟨T,hT⟩:=nmE (tab (outGain s w) c);rw [<- hT] at hstI hlen |-;clear cG cC cF cX cP cPut cW hst hT e1 e2;simp only [go_sem,seval,hdc];(with_reducible and_intros)<;>first|exact .dq|omega|skip
  refine CallN.pure cGc ?_
  by_cases q:outGE s w c=0
  ·rw [if_pos q] at hI;rw [q];simp only [go_sem,seval,bne,ints_len,hlen,hwc];(with_reducible and_intros)<;>first|exact .dq|omega|skip
   refine RoundK.step () hc (by rw [hm2];exact hI) ?_;simp only [go_sem,seval,hstI]
  ·have d:(outGE s w c==0)=false:=by simpa using q
   rw [if_neg q] at hI;rw [<- hI,if_neg q] at hE;rw [hE];simp only [if_neg q];simp only [go_sem,seval,bne,d];(with_reducible and_intros)<;>first|exact .dq|omega|skip
   all_goals simp [StateV.zero,pl]
 intro _ _ hI;have hI:F1=0:=hI.symm;rw [if_pos hI] at hE;clear cG hI;have hGl:=tab_len (outGain s w) 3;have hGat:∀ c,c < 3->(tab (outGain s w) 3)[c]?=some (outGain s w c):=fun c h=>by simp [tab,h]
 obtain ⟨GS,hGS⟩:=nmE (tab (outGain s w) 3);simp only [<- hGS] at hGl hGat;rw [<- hGS];clear hGS;simp only [go_sem,seval];(with_reducible and_intros)<;>first|exact .dq|omega|skip
 obtain ⟨F2,hF2⟩:=nmE (firstE3 (outCE s w) 3 0);rw [<- hF2] at hE;refine LoopK.walk (S:=Unit) 3 [1,2,4,8,9,12,14,15] [48,80,144,160,208,1024] (fun i _=>[(20,.int .i64 i),(13,.ref 1584),(19,.ref 1648)]) (fun i _=>[(1584,.own 8 ((tab (outFall s w) i).map FallV.cells)),(1648,.own 1 (capRows (tab (outCaps s w) i)))]) (fun i _=>firstE3 (outCE s w) (3-i) i=F2) () hF2.symm ?_ ?_ ?_
 ·simp only [go_sem,seval,tab_zero]<;>simp [capRows]
 ·intro c _ hc hdc hwc hI;have hdc:decide ((c:Int) < 3)=true:=hdc;obtain ⟨m,hm⟩:∃ m,3-c=m+1:=⟨3-c-1,by omega⟩
  have hm2:3-(c+1)=m:=by omega
  rw [hm] at hI;simp only [firstE3] at hI;have hcg:c < GS.length:=by omega
  have hmg:=ints_at GS hcg
  have hga:GS[c]=outGain s w c:=by
   have:=hGat c hc;rw [List.getElem?_eq_getElem hcg] at this;exact Option.some.inj this
  rw [hga] at hmg;have hlc:(c:Int) < (GS.length:Int):=by omega
  have cCc:=cC c (outGain s w c);have hcl:(capsL s w c (outGain s w c)).length < 2 ^ 30:=by unfold capsL;split<;>simp
  have cFc:=cF c (capsN s w c (outGain s w c)) (capsL s w c (outGain s w c)) hcl;have hCE:outCE s w c=if capsE s w c (outGain s w c)=0 then fallE c (capsN s w c (outGain s w c)) (capsL s w c (outGain s w c)) else capsE s w c (outGain s w c):=rfl
  have e1:fallR c (capsN s w c (outGain s w c)) (capsL s w c (outGain s w c))=outFall s w c:=rfl;have hst1:=tab_step (outFall s w) c;have hst2:=tab_step (outCaps s w) c;have hst2':capRows (tab (outCaps s w) (c+1))=capRows (tab (outCaps s w) c)++[[.sl 1 (ints (capsL s w c (outGain s w c)))]]:=by rw [hst2];simp only [capRows,List.map_append,List.map_cons,List.map_nil,outCaps]
  have hl1:=tab_len (outFall s w) c;have hl2:=tab_len (outCaps s w) c;rw [e1] at cFc;obtain ⟨T,hT⟩:=nmE (tab (outFall s w) c);obtain ⟨U,hU⟩:=nmE (tab (outCaps s w) c);rw [<- hT] at hst1 hl1;rw [<- hU] at hst2' hl2;rw [<- hT,<- hU];obtain ⟨fl,hfl⟩:=nmE (outFall s w c);rw [<- hfl] at cFc hst1;clear cC cF cX cP cPut cW hst2 hT hU e1 hGat;simp only [go_sem,seval,hdc,ints_len,hmg];(with_reducible and_intros)<;>first|exact .dq|omega|skip
  refine CallN.pure cCc ?_
  by_cases q:capsE s w c (outGain s w c)=0
  case neg =>
   have d:(capsE s w c (outGain s w c)==0)=false:=by simpa using q
   rw [if_neg q] at hCE;rw [hCE,if_neg q] at hI;rw [<- hI,if_neg q] at hE;rw [hE];simp only [if_neg q];simp only [go_sem,seval,bne,d];(with_reducible and_intros)<;>first|exact .dq|omega|skip
   all_goals simp [StateV.zero,pl]
  rw [if_pos q] at hCE;rw [q];simp only [go_sem,seval];(with_reducible and_intros)<;>first|exact .dq|omega|skip
  refine CallN.pure cFc ?_;rw [<- hCE]
  by_cases q2:outCE s w c=0
  ·rw [if_pos q2] at hI;rw [q2];simp only [go_sem,seval,bne,lml,capRows_len,hl1,hl2,hwc];(with_reducible and_intros)<;>first|exact .dq|omega|skip
   refine RoundK.step () hc (by rw [hm2];exact hI) ?_;simp only [go_sem,seval,hst1,hst2']<;>simp
  ·have d:(outCE s w c==0)=false:=by simpa using q2
   rw [if_neg q2] at hI;rw [<- hI,if_neg q2] at hE;rw [hE];simp only [if_neg q2];simp only [go_sem,seval,bne,d];(with_reducible and_intros)<;>first|exact .dq|omega|skip
   all_goals simp [StateV.zero,pl]
 intro _ _ hI;have hI:F2=0:=hI.symm;rw [if_pos hI] at hE;have hCE0:∀ c < 3,outCE s w c=0:=fun c h=>firstE3_at (hF2.symm.trans hI) c (by omega) (by omega)
 clear cC cF hI;have hFl:=tab_len (outFall s w) 3;have hFat:∀ c,c < 3->(tab (outFall s w) 3)[c]?=some (outFall s w c):=fun c h=>by simp [tab,h]
 have hCl:(capRows (tab (outCaps s w) 3)).length=3:=by rw [capRows_len,tab_len]
 have hCat:∀ c,c < 3->(capRows (tab (outCaps s w) 3)).getD c []=[.sl 1 (ints (outCaps s w c))]:=fun c h=>by
  rw [capRows_at _ (by rw [tab_len];exact h)];simp [tab]
 obtain ⟨FS,hFS⟩:=nmE (tab (outFall s w) 3);simp only [<- hFS] at hFl hFat;obtain ⟨CS,hCS⟩:=nmE (capRows (tab (outCaps s w) 3));simp only [<- hCS] at hCl hCat;rw [<- hCS];obtain ⟨R,hR⟩:=nmE (outG s w 3 0 s.led []);simp only [<- hR] at hE |-;clear hCS;have hlf:s.led.fine:=⟨hlb,hr.bs,hr.last⟩
 simp only [go_sem,seval,<- hFS];(with_reducible and_intros)<;>first|exact .dq|omega|skip
 refine LoopK.walk (S:=LedV × List DueV) 3 [1,2,4,8,9,12,13,15,19] [48,80,144,160,1024,1584,1648] (fun i _=>[(25,.int .i64 i),(14,.ref 2544)])
  (fun _ x=>[(208,.box [.int .i64 s.now,.int .i64 s.day,.int .i64 s.phase,.sl 3 (s.roll.ms.map MemberV.cells),.sl 12 (s.roll.ns.map InstV.cells),.sl 4 (s.roll.xs.map AssetV.cells),.int .i64 s.book.next,.sl 7 (s.book.ts.map TradeV.cells),.sl 4 (s.book.qs.map PosV.cells),
   .int .i64 x.1.last,.sl 4 (x.1.bs.map BalV.cells),.sl 3 (pl s.ps),.sl 4 (s.calls.map CallV.cells),.sl 5 (s.bids.map BidV.cells),.sl 7 (s.seats.map SeatV.cells)]),(2544,.own 3 (x.2.map DueV.cells))])
  (fun i x=>outG s w (3-i) i x.1 x.2=R/\x.1.fine/\x.2.length<=i) (s.led,[]) ⟨hR.symm,hlf,Nat.le_refl _⟩ ?_ ?_ ?_
 ·simp only [go_sem,seval]<;>simp
 ·intro c x hc hdc hwc hI;obtain ⟨L,p⟩:=x;obtain ⟨hI,hLf,hpl⟩:=hI;dsimp only at hI hLf hpl |-;have hdc:decide ((c:Int) < 3)=true:=hdc;obtain ⟨m,hm⟩:∃ m,3-c=m+1:=⟨3-c-1,by omega⟩
  have hm2:3-(c+1)=m:=by omega
  rw [hm] at hI;simp only [outG] at hI;have hcg:c < GS.length:=by omega
  have hcf:c < FS.length:=by omega
  have hmg:=ints_at GS hcg
  have hga:GS[c]=outGain s w c:=by
   have:=hGat c hc;rw [List.getElem?_eq_getElem hcg] at this;exact Option.some.inj this
  rw [hga] at hmg;have hmf:=map_at (c:=FallV.cells) FS hcf
  have hfa:FS[c]=outFall s w c:=by
   have:=hFat c hc;rw [List.getElem?_eq_getElem hcf] at this;exact Option.some.inj this
  rw [hfa] at hmf;have hmc:=hCat c hc;have hlc:(c:Int) < (GS.length:Int):=by omega
  have hlf:(c:Int) < (FS.length:Int):=by omega
  have hlk:(c:Int) < (CS.length:Int):=by omega
  have hc0:=hCE0 c hc;unfold outCE at hc0
  have hcE:capsE s w c (outGain s w c)=0:=by
   split at hc0
   ·assumption
   ·exact hc0
  rw [if_pos hcE] at hc0;obtain ⟨a,b,rest,ho,hrl⟩:=capsL_two hcE;have ho:outCaps s w c=a :: b :: rest:=ho;obtain ⟨hx,hy⟩:=fall_two hc0 ho;have cXc:=cX c (outGain s w c) (outFall s w c) (outCaps s w c) a b rest ho (by omega) hx hy;have hA:outChg s w c=chargeR s w c (outGain s w c) (outFall s w c) a b:=by unfold outChg;rw [ho];rfl
  rw [<- hA] at cXc
  have hgl:(outChg s w c).1.length<=306:=by
   rw [hA];unfold chargeR;split
   ·split
    ·split
     ·exact joinL_len _
     ·simp
    ·simp
   ·simp
  have cPc:=fun h=>cP L (nextId L) (outChg s w c).1 (by have:=hLf.1;omega) hLf.2.1 h
  have cPc:=cPc (by omega);simp only [nextId] at cPc;have hPf:=postIf_fine hLf (outChg s w c).1 (outChg s w c).2.2;obtain ⟨g,hg⟩:=nmE ((outChg s w c).1);obtain ⟨n,hn⟩:=nmE ((outChg s w c).2.1);obtain ⟨e,he⟩:=nmE ((outChg s w c).2.2);simp only [<- hg,<- hn,<- he] at cXc cPc hPf hI hgl;obtain ⟨fl,hfl⟩:=nmE (outFall s w c);rw [<- hfl] at hmf cXc;simp only [FallV.cells] at hmf;clear cX cP hA hg hn he hGat hFat hCat hx hy hc0 hcE hCE0 cPut cW hfl;simp only [go_sem,seval,hdc,ints_len,lml,hmg,hmf,hmc];(with_reducible and_intros)<;>first|exact .dq|omega|skip
  refine CallN.pure cXc ?_
  by_cases q1:e=0
  case neg =>
   have d:(e==0)=false:=by simpa using q1
   have hp0:postIf L g e=(L,e):=by simp [postIf,q1]
   rw [hp0] at hI;dsimp only at hI;rw [if_neg q1] at hI;rw [hE,<- hI];simp only [if_neg q1];simp only [go_sem,seval,bne,d];(with_reducible and_intros)<;>first|exact .dq|omega|skip
   all_goals simp [StateV.zero,pl]
  rw [q1] at hI hPf |-
  by_cases q2:g=[]
  ·have hp0:postIf L g 0=(L,0):=by simp [postIf,q2]
   rw [hp0] at hI hPf;dsimp only at hI hPf;rw [if_pos rfl] at hI;rw [q2];simp only [go_sem,seval,List.map_nil,List.length_nil];(with_reducible and_intros)<;>first|exact .dq|omega|skip
   by_cases q3:n=0
   ·have hI:outG s w m (c+1) L p=R:=by rw [<- hI];simp [paidIf,q3]
    rw [q3];simp only [go_sem,seval,bne,hwc];(with_reducible and_intros)<;>first|exact .dq|omega|skip
    refine RoundK.step (L,p) hc ⟨by rw [hm2];exact hI,hPf,by dsimp only;omega⟩ ?_;simp only [go_sem,seval]<;>simp
   ·have d:(n==0)=false:=by simpa using q3
    have hI:outG s w m (c+1) L (p++[⟨w,c,n⟩])=R:=by rw [<- hI];simp [paidIf,q3]
    simp only [go_sem,seval,bne,d,hwc,lml];(with_reducible and_intros)<;>first|exact .dq|omega|skip
    refine RoundK.step (L,p++[⟨w,c,n⟩]) hc ⟨by rw [hm2];exact hI,hPf,by simp;omega⟩ ?_;simp only [go_sem,seval]<;>simp
  have hgp:decide ((0:Int) < (g.length:Int))=true:=by
   have:g.length≠0:=fun h=>q2 (List.eq_nil_of_length_eq_zero h)
   simp;omega
  have hp0:postIf L g 0=(postL L (nextId L) g,postE L (nextId L) g):=by simp [postIf,q2]
  simp only [nextId] at hp0;obtain ⟨M,hM⟩:=nmE (postL L (IntKind.wrap .i64 (L.last+1)) g);obtain ⟨e2,he2⟩:=nmE (postE L (IntKind.wrap .i64 (L.last+1)) g);rw [<- hM,<- he2] at hp0 cPc;rw [hp0] at hI hPf;dsimp only at hI hPf;simp only [go_sem,seval,lml,hgp];(with_reducible and_intros)<;>first|exact .dq|omega|skip
  refine CallN.pure cPc ?_;clear cPc hM he2 cXc
  by_cases q4:e2=0
  case neg =>
   have d:(e2==0)=false:=by simpa using q4
   rw [if_neg q4] at hI;rw [hE,<- hI];simp only [if_neg q4];simp only [go_sem,seval,bne,d];(with_reducible and_intros)<;>first|exact .dq|omega|skip
   all_goals simp [StateV.zero,pl]
  rw [q4] at hI |-;rw [if_pos rfl] at hI;simp only [go_sem,seval];(with_reducible and_intros)<;>first|exact .dq|omega|skip
  by_cases q3:n=0
  ·have hI:outG s w m (c+1) M p=R:=by rw [<- hI];simp [paidIf,q3]
   rw [q3];simp only [go_sem,seval,bne,hwc];(with_reducible and_intros)<;>first|exact .dq|omega|skip
   refine RoundK.step (M,p) hc ⟨by rw [hm2];exact hI,hPf,by dsimp only;omega⟩ ?_;simp only [go_sem,seval]<;>simp
  ·have d:(n==0)=false:=by simpa using q3
   have hI:outG s w m (c+1) M (p++[⟨w,c,n⟩])=R:=by rw [<- hI];simp [paidIf,q3]
   simp only [go_sem,seval,bne,d,hwc,lml];(with_reducible and_intros)<;>first|exact .dq|omega|skip
   refine RoundK.step (M,p++[⟨w,c,n⟩]) hc ⟨by rw [hm2];exact hI,hPf,by simp;omega⟩ ?_;simp only [go_sem,seval]<;>simp
 rintro ⟨L,p⟩ _ ⟨hI,hLf,hpl⟩
 have hI:(L,p,(0:Int))=R:=hI;subst hI;dsimp only at hE hLf hpl |-;rw [hE];clear hE cX cP hGat hFat hCat hCE0 hGl hCl hlf hF1 hF2 hR;simp only [go_sem,seval];(with_reducible and_intros)<;>first|exact .dq|omega|skip
 refine CallN.pure cPut ?_;simp only [go_sem,seval];(with_reducible and_intros)<;>first|exact .dq|omega|skip
 refine CallN.gen [2768] [] false (by simp) ?_;simp only [go_sem,seval];refine CallG.intro cW ?_;clear cPut cW;have hpsl:=hs.ps;obtain ⟨PU,hPU⟩:=nmE (putR s.roll w 3);obtain ⟨PB,hPB⟩:=nmE (posnB s w);obtain ⟨WL,hWL⟩:=nmE (withoutL s.calls [w]);rw [<- hPU,<- hPB,<- hWL];clear hPU hPB hWL;simp only [go_sem,seval];(with_reducible and_intros)<;>first|exact .dq|omega|skip
 refine LoopK.walk (S:=Unit) s.ps.length [1,2,4,12,13,14] [48,80,1584,2544] (fun i _=>[(29,.int .i64 i)])
  (fun i _=>[(208,.box [.int .i64 s.now,.int .i64 s.day,.int .i64 s.phase,.sl 3 (PU.ms.map MemberV.cells),.sl 12 (PU.ns.map InstV.cells),.sl 4 (PU.xs.map AssetV.cells),.int .i64 PB.next,.sl 7 (PB.ts.map TradeV.cells),.sl 4 (PB.qs.map PosV.cells),
   .int .i64 L.last,.sl 4 (L.bs.map BalV.cells),.ref 3200,.sl 4 (WL.map CallV.cells),.sl 5 (s.bids.map BidV.cells),.sl 7 (s.seats.map SeatV.cells)]),(3200,.own 3 (pl (keepPl w (s.ps.take i))))])
  (fun _ _=>True) () trivial ?_ ?_ ?_
 ·simp only [go_sem,seval]<;>simp [keepPl,pl]
 ·intro i _ hi hdi hwi _;have hm:=pl_at s.ps hi;have hli:(i:Int) < (s.ps.length:Int):=by omega
  have hlt:(s.ps.take i).length=i:=by simp;omega
  have hs1:keepPl w (s.ps.take (i+1))=keepPl w (s.ps.take i)++_:=fm_step _ hi;have hkl:=keepPl_len w (s.ps.take i);obtain ⟨x,hx⟩:=nmE (s.ps[i]);rw [<- hx] at hm hs1;obtain ⟨K,hK⟩:=nmE (keepPl w (s.ps.take i));rw [<- hK] at hs1 hkl;rw [<- hK];have hp2:pl (K++[x])=pl K++[[.int .i64 x.who,.int .i64 x.asset,.int .i64 x.units]]:=by simp [pl,Plg.cells]
  cases q1:x.who==w
  ·simp only [q1,bfe,if_false] at hs1;simp only [go_sem,seval,pl_len,hdi,hm,bne,q1,hwi];(with_reducible and_intros)<;>first|exact .dq|omega|skip
   refine RoundK.step () hi trivial ?_;simp only [go_sem,seval,hs1,hp2]<;>simp
  ·simp only [q1,if_true,List.append_nil] at hs1;simp only [go_sem,seval,pl_len,hdi,hm,bne,q1,hwi];(with_reducible and_intros)<;>first|exact .dq|omega|skip
   refine RoundK.step () hi trivial ?_;simp only [go_sem,seval,hs1]<;>simp
 intro _ hdx _;simp only [go_sem,seval,pl_len,hdx,List.take_length,lml];(with_reducible and_intros)<;>first|exact .dq|omega|skip
 have hbsl:=hs.bids
 refine LoopK.walk (S:=Unit) s.bids.length [1,2,4,12,13,14] [48,80,1584,2544,3200] (fun i _=>[(30,.int .i64 i)])
  (fun i _=>[(208,.box [.int .i64 s.now,.int .i64 s.day,.int .i64 s.phase,.sl 3 (PU.ms.map MemberV.cells),.sl 12 (PU.ns.map InstV.cells),.sl 4 (PU.xs.map AssetV.cells),.int .i64 PB.next,.sl 7 (PB.ts.map TradeV.cells),.sl 4 (PB.qs.map PosV.cells),
   .int .i64 L.last,.sl 4 (L.bs.map BalV.cells),.ref 3200,.sl 4 (WL.map CallV.cells),.ref 3792,.sl 7 (s.seats.map SeatV.cells)]),(3792,.own 5 ((keepBd w (s.bids.take i)).map BidV.cells))])
  (fun _ _=>True) () trivial ?_ ?_ ?_
 ·simp only [go_sem,seval]<;>simp [keepBd]
 ·intro i _ hi hdi hwi _;have hm:=map_at (c:=BidV.cells) s.bids hi;have hli:(i:Int) < (s.bids.length:Int):=by omega
  have hlt:(s.bids.take i).length=i:=by simp;omega
  have hs1:keepBd w (s.bids.take (i+1))=keepBd w (s.bids.take i)++_:=fm_step _ hi;have hkl:=keepBd_len w (s.bids.take i);obtain ⟨x,hx⟩:=nmE (s.bids[i]);rw [<- hx] at hm hs1;obtain ⟨K,hK⟩:=nmE (keepBd w (s.bids.take i));rw [<- hK] at hs1 hkl;rw [<- hK];cases q1:x.who==w
  ·cases q2:x.src==w
   ·simp only [q1,q2,Bool.or_self,bfe,if_false] at hs1;simp only [go_sem,seval,lml,hdi,hm,bne,q1,q2,hwi];(with_reducible and_intros)<;>first|exact .dq|omega|skip
    refine RoundK.step () hi trivial ?_;simp only [go_sem,seval,hs1]<;>simp
   ·simp only [q1,q2,Bool.false_or,if_true,List.append_nil] at hs1;simp only [go_sem,seval,lml,hdi,hm,bne,q1,q2,hwi];(with_reducible and_intros)<;>first|exact .dq|omega|skip
    refine RoundK.step () hi trivial ?_;simp only [go_sem,seval,hs1]<;>simp
  ·simp only [q1,Bool.true_or,if_true,List.append_nil] at hs1;simp only [go_sem,seval,lml,hdi,hm,bne,q1,hwi];(with_reducible and_intros)<;>first|exact .dq|omega|skip
   refine RoundK.step () hi trivial ?_;simp only [go_sem,seval,hs1]<;>simp
 intro _ hdx2 _;simp only [go_sem,seval,lml,hdx2,List.take_length]
theorem refOut_spec (s:StateV) (w:Int) (hs:s.small) (hr:s.rng) (hm:s.roll.ms.length < 2 ^ 27) (hq:s.book.qs.length < 2 ^ 20) (hbl:s.bids.length < 2 ^ 20) (hlb:s.led.bs.length < 2 ^ 29) :
  Abs.Spec Tryz.prog 111 [] [.agg s.cells,.int .i64 w] [] (.tup [.agg (outS s w).cells,.sl 8 ((outF s w).map FallV.cells),.sl 3 ((outD s w).map DueV.cells),.int .i64 (outE s w)]):=by
 refine Spec.frozen (refOut_own s w hs hr hm hq hbl hlb) [0,1,2,3] rfl ?_;intro r;rcases r with _ | _ | _ | _ | r<;>rfl
def settleN (s:StateV):List DueV:=(netR (runD s.roll s.book)).1
def settleP (s:StateV):LedV × Int:=postIf s.led (nlegL (settleN s)) (nlegE (settleN s))
def settleE (s:StateV):Int:=if rightS s then (if s.phase=0 then (if runE s.roll s.book=0 then (if (netR (runD s.roll s.book)).2=0 then (settleP s).2 else (netR (runD s.roll s.book)).2) else runE s.roll s.book) else 15) else 14
def settleS (s:StateV):StateV:=if settleE s=0 then { s with phase:=1,roll:=turnR s.roll,book:=runB s.roll s.book,led:=(settleP s).1 } else .zero
def settleD (s:StateV):List DueV:=if settleE s=0 then settleN s else []
theorem nlegL_len (l:List DueV):(nlegL l).length<=306:=by
 unfold nlegL;split
 ·exact joinL_len _
 ·simp
theorem runD_len (r:RollV) (b:BookV):(runD r b).length<=b.qs.length:=by
 unfold runD;split<;>simp
theorem right_clock {s:StateV} (h:rightS s=true):0<=s.now/\s.now<=1099511627776/\0<=s.day/\s.day<=1099511627776/\0<=s.phase/\s.phase<=2:=by
 simp only [rightS,clockB,within,bae,decide_eq_true_eq] at h;have:=h.1;omega
theorem refSettle_spec (s:StateV) (hs:s.small) (hr:s.rng) (hq:s.book.qs.length < 2 ^ 20) :
  Abs.Spec Tryz.prog 106 [] [.agg s.cells] [] (.tup [.agg (settleS s).cells,.sl 3 ((settleD s).map DueV.cells),.int .i64 (settleE s)]):=by
 have c1:=refRightS_spec s hs hr;have c2:=twinState_frozen s hs;have c3:=refRun_spec s.roll s.book hs.roll hs.book hr.qs;have hdl:=runD_len s.roll s.book;have c4:=refNet_spec (runD s.roll s.book) (by omega);have hnl:=(netR_ok (runD s.roll s.book)).2;have c5:=refNetLegs_spec (settleN s) (by unfold settleN;omega);have hgl:=nlegL_len (settleN s);have c6:=ref8Post_spec s.led (nextId s.led) (nlegL (settleN s)) hs.led hr.bs (by omega);have c7:=refTurn_spec s.roll hs.roll;obtain ⟨E,hE⟩:=nmE (settleE s);have hE0:=hE;simp only [settleE] at hE;simp only [settleS,settleD,<- hE0];clear hE0;obtain ⟨P,hP⟩:=nmE (settleP s);rw [<- hP] at hE |-;simp only [settleP] at hP;have e1:(netR (runD s.roll s.book)).1=settleN s:=rfl;rw [e1] at c4;clear e1;obtain ⟨N,hN⟩:=nmE (settleN s);obtain ⟨ne,hne⟩:=nmE ((netR (runD s.roll s.book)).2);rw [<- hN] at c4 c5 c6 hP hgl |-;rw [<- hne] at c4 hE;clear hN hne hnl;obtain ⟨g,hg⟩:=nmE (nlegL N);obtain ⟨ge,hge⟩:=nmE (nlegE N);rw [<- hg] at c5 c6 hP hgl;rw [<- hge] at c5 hP;clear hg hge;simp only [StateV.cells] at c1 c2 |-;simp only [BookV.cells] at c3;simp only [RollV.cells] at c3 c7;simp only [LedV.cells,nextId] at c6;simp only [nextId,postIf] at hP;obtain ⟨RD,hRD⟩:=nmE (runD s.roll s.book);obtain ⟨RB,hRB⟩:=nmE (runB s.roll s.book);obtain ⟨re,hre⟩:=nmE (runE s.roll s.book);rw [<- hRD] at c3 c4;rw [<- hRB] at c3 |-;rw [<- hre] at c3 hE;clear hRD hRB hre hdl;refine sgo 82 1 [.cell 2 42,.tmp 3,.tmp 4] mixed Tryz.func106 ?_;simp only [go_sem,seval];(with_reducible and_intros)<;>first|exact .dq|omega|skip
 refine CallN.pure c1 ?_;cases b1:rightS s
 ·rw [b1] at hE;rw [hE];simp only [go_sem,seval]<;>simp [StateV.zero,pl]
 rw [b1,if_pos rfl] at hE;simp only [go_sem,seval];(with_reducible and_intros)<;>first|exact .dq|omega|skip
 by_cases b2:s.phase=0
 case neg =>
  have d:(s.phase==0)=false:=by simpa using b2
  rw [if_neg b2] at hE;rw [hE];simp only [go_sem,seval,bne,d]<;>simp [StateV.zero,pl]
 rw [if_pos b2] at hE;rw [b2] at c1 c2 |-;simp only [go_sem,seval];(with_reducible and_intros)<;>first|exact .dq|omega|skip
 refine CallN.pure c3 ?_;clear c1 c3
 by_cases b3:re=0
 case neg =>
  have d:(re==0)=false:=by simpa using b3
  rw [if_neg b3] at hE;rw [hE];simp only [if_neg b3];simp only [go_sem,seval,bne,d]<;>simp [StateV.zero,pl]
 rw [if_pos b3] at hE;rw [b3];simp only [go_sem,seval];(with_reducible and_intros)<;>first|exact .dq|omega|skip
 refine CallN.pure c4 ?_
 by_cases b4:ne=0
 case neg =>
  have d:(ne==0)=false:=by simpa using b4
  rw [if_neg b4] at hE;rw [hE];simp only [if_neg b4];simp only [go_sem,seval,bne,d]<;>simp [StateV.zero,pl]
 rw [if_pos b4] at hE;rw [b4];clear c4;simp only [go_sem,seval];(with_reducible and_intros)<;>first|exact .dq|omega|skip
 refine CallN.pure c2 ?_;simp only [go_sem,seval];(with_reducible and_intros)<;>first|exact .dq|omega|skip
 refine CallN.pure c5 ?_;clear c2 c5
 by_cases q1:ge=0
 case neg =>
  have d:(ge==0)=false:=by simpa using q1
  rw [if_neg (by simp [q1])] at hP;rw [hE,hP];simp only [if_neg q1];simp only [go_sem,seval,bne,d]<;>simp [StateV.zero,pl]
 rw [q1] at hP |-
 by_cases q2:g=[]
 ·rw [if_neg (by simp [q2])] at hP;rw [hE,hP,q2];simp only [go_sem,seval,List.map_nil,List.length_nil];(with_reducible and_intros)<;>first|exact .dq|omega|skip
  refine CallN.pure c7 ?_;simp only [go_sem,seval]
 have hgp:decide ((0:Int) < (g.length:Int))=true:=by
  have:g.length≠0:=fun h=>q2 (List.eq_nil_of_length_eq_zero h)
  simp;omega
 rw [if_pos ⟨rfl,q2⟩] at hP;obtain ⟨M,hM⟩:=nmE (postL s.led (IntKind.wrap .i64 (s.led.last+1)) g);obtain ⟨e2,he2⟩:=nmE (postE s.led (IntKind.wrap .i64 (s.led.last+1)) g);rw [<- hM,<- he2] at hP c6;simp only [go_sem,seval,lml,hgp];(with_reducible and_intros)<;>first|exact .dq|omega|skip
 refine CallN.pure c6 ?_
 by_cases q4:e2=0
 case neg =>
  have d:(e2==0)=false:=by simpa using q4
  rw [hE,hP];simp only [if_neg q4];simp only [go_sem,seval,bne,d]<;>simp [StateV.zero,pl]
 rw [hE,hP,q4];simp only [go_sem,seval];(with_reducible and_intros)<;>first|exact .dq|omega|skip
 refine CallN.pure c7 ?_;simp only [go_sem,seval]
def openE (s:StateV):Int:=if rightS s then (if s.phase=2 then (if s.day=1099511627776 then 1 else 0) else 15) else 14
def openS (s:StateV):StateV:=if openE s=0 then { s with day:=s.day+1,phase:=0,book:=⟨s.book.next,[],s.book.qs⟩ } else .zero
theorem refDayOpen_spec (s:StateV) (hs:s.small) (hr:s.rng):Abs.Spec Tryz.prog 108 [] [.agg s.cells] [] (.tup [.agg (openS s).cells,.int .i64 (openE s)]):=by
 have c1:=refRightS_spec s hs hr;have c2:=twinState_frozen s hs;have hck:=fun h=>right_clock (s:=s) h
 obtain ⟨E,hE⟩:=nmE (openE s);have hE0:=hE;simp only [openE] at hE;simp only [openS,<- hE0];clear hE0;simp only [StateV.cells] at c1 c2 |-;refine sgo 32 1 [.cell 2 42,.tmp 3] mixed Tryz.func108 ?_;simp only [go_sem,seval];(with_reducible and_intros)<;>first|exact .dq|omega|skip
 refine CallN.pure c1 ?_;cases b1:rightS s
 ·rw [b1] at hE;rw [hE];simp only [go_sem,seval]<;>simp [StateV.zero,pl]
 have hck:=hck b1;rw [b1,if_pos rfl] at hE;simp only [go_sem,seval];(with_reducible and_intros)<;>first|exact .dq|omega|skip
 by_cases b2:s.phase=2
 case neg =>
  have d:(s.phase==2)=false:=by simpa using b2
  rw [if_neg b2] at hE;rw [hE];simp only [go_sem,seval,bne,d]<;>simp [StateV.zero,pl]
 rw [if_pos b2] at hE;rw [b2] at c1 c2 |-;simp only [go_sem,seval];(with_reducible and_intros)<;>first|exact .dq|omega|skip
 by_cases b3:s.day=1099511627776
 ·rw [if_pos b3] at hE;rw [hE,b3];simp only [go_sem,seval]<;>simp [StateV.zero,pl]
 have d:(s.day==1099511627776)=false:=by simpa using b3
 have hw:IntKind.wrap .i64 (s.day+1)=s.day+1:=wr64 (by omega) (by omega);rw [if_neg b3] at hE;rw [hE];simp only [go_sem,seval,d];(with_reducible and_intros)<;>first|exact .dq|omega|skip
 refine CallN.pure c2 ?_;simp only [go_sem,seval,hw]<;>simp
def CallV.due (c:CallV):DueV:=⟨c.who,c.cur,c.amt⟩
def tickF:List CallV->RollV × List CallV->RollV × List CallV
 | [],x=>x
 | c :: r,x=>tickF r (putR x.1 c.who 2,withoutL x.2 [c.who])
def tickE (s:StateV) (n:Int):Int:=if rightS s then (if within n 1 1000 then (if 1099511627776 < s.now+n then 1 else 0) else 3) else 14
def tickS (s:StateV) (n:Int):StateV:=if tickE s n=0 then { s with now:=s.now+n,roll:=(tickF (lateA (s.now+n) s.calls) (s.roll,s.calls)).1,calls:=(tickF (lateA (s.now+n) s.calls) (s.roll,s.calls)).2 } else .zero
def tickD (s:StateV) (n:Int):List DueV:=if tickE s n=0 then (lateA (s.now+n) s.calls).map CallV.due else []
theorem updL_len {A:Type} (no:A->Int) (n:Int) (f:A->A) (l:List A):(updL no n f l).length<=l.length:=by
 induction l with
 | nil=>simp [updL]
 | cons x r ih=>simp only [updL];split<;>simp<;>omega
theorem putR_tiny {r:RollV} (h:r.tiny) (n p:Int):(putR r n p).tiny:=by
 unfold putR;split
 ·obtain ⟨h1,h2,h3⟩:=h;exact ⟨Nat.lt_of_le_of_lt (updL_len _ _ _ _) h1,h2,h3⟩
 ·exact ⟨by simp [RollV.none],by simp [RollV.none],by simp [RollV.none]⟩
theorem withoutL_len (xs:List CallV) (ws:List Int):(withoutL xs ws).length<=xs.length:=by
 have:=fm_len (f:=fun x:CallV=>if inK ws x.who then [] else [x]) (m:=1) (fun p=>by split<;>simp) xs;simpa [withoutL] using this
theorem lateA_len (n:Int) (xs:List CallV):(lateA n xs).length<=xs.length:=by
 have:=fm_len (f:=fun x:CallV=>if x.till<=n then [x] else []) (m:=1) (fun p=>by split<;>simp) xs;simpa [lateA] using this
theorem frz9 (n0 n1 n2 n3 n4:Int) (r0 r1 r2 r3 r4 r5 r6 r7 r8 r9:List (List D)):(frzEL [0,1,2,3,4,5,6,8,9] (mkE [(0,.agg [.int .i64 n0,.int .i64 n1,.int .i64 n2,.ref 0,.ref 1,.ref 2,.int .i64 n3,.ref 3,.ref 4,.int .i64 n4,.ref 5,.ref 6,.ref 7,.ref 8,.ref 9])] (osL 0 [.own 3 r0,.own 12 r1,.own 4 r2,.own 7 r3,.own 4 r4,.own 4 r5,.own 3 r6,.own 4 r7,.own 5 r8,.own 7 r9]))).t 0=.agg [.int .i64 n0,.int .i64 n1,.int .i64 n2,.sl 3 r0,.sl 12 r1,.sl 4 r2,.int .i64 n3,.sl 7 r3,.sl 4 r4,.int .i64 n4,.sl 4 r5,.sl 3 r6,.ref 7,.sl 5 r8,.sl 7 r9]:=by
 kernel_rfl
theorem frz9o (d:D) (r0 r1 r2 r3 r4 r5 r6 r7 r8 r9:List (List D)) (r:Nat):(frzEL [0,1,2,3,4,5,6,8,9] (mkE [(0,d)] (osL 0 [.own 3 r0,.own 12 r1,.own 4 r2,.own 7 r3,.own 4 r4,.own 4 r5,.own 3 r6,.own 4 r7,.own 5 r8,.own 7 r9]))).o r=[D.undef,.undef,.undef,.undef,.undef,.undef,.undef,.own 4 r7].getD r .undef:=by
 rcases r with _ | _ | _ | _ | _ | _ | _ | _ | _ | _ | r<;>kernel_rfl
theorem twinState_C (s:StateV) (hs:s.small):Abs.Spec Tryz.prog 15 [] [.agg s.cells] [.undef,.undef,.undef,.undef,.undef,.undef,.undef,.own 4 (s.calls.map CallV.cells)] (.agg [.int .i64 s.now,.int .i64 s.day,.int .i64 s.phase,.sl 3 (s.roll.ms.map MemberV.cells),.sl 12 (s.roll.ns.map InstV.cells),.sl 4 (s.roll.xs.map AssetV.cells),.int .i64 s.book.next,.sl 7 (s.book.ts.map TradeV.cells),.sl 4 (s.book.qs.map PosV.cells),
 .int .i64 s.led.last,.sl 4 (s.led.bs.map BalV.cells),.sl 3 (pl s.ps),.ref 7,.sl 5 (s.bids.map BidV.cells),.sl 7 (s.seats.map SeatV.cells)]):=by
 have h:=twinState_spec s hs;simp only [stOwn,stRefs] at h;simp only [StateV.cells];simp only [StateV.cells] at h;exact Spec.frozen h [0,1,2,3,4,5,6,8,9] (frz9 ..) (fun r=>frz9o ..)
theorem refTick_own (s : StateV) (n : Int) (hs : s.small) (hr : s.rng) : Abs.Spec Tryz.prog 109 [] [.agg s.cells, .int .i64 n] [.own 4 ((tickS s n).calls.map CallV.cells), .own 3 ((tickD s n).map DueV.cells)] (.tup [.agg [.int .i64 (tickS s n).now, .int .i64 (tickS s n).day, .int .i64 (tickS s n).phase, .sl 3 ((tickS s n).roll.ms.map MemberV.cells), .sl 12 ((tickS s n).roll.ns.map InstV.cells), .sl 4 ((tickS s n).roll.xs.map AssetV.cells), .int .i64 (tickS s n).book.next, .sl 7 ((tickS s n).book.ts.map TradeV.cells), .sl 4 ((tickS s n).book.qs.map PosV.cells),
        .int .i64 (tickS s n).led.last, .sl 4 ((tickS s n).led.bs.map BalV.cells), .sl 3 (pl (tickS s n).ps), .ref 0, .sl 5 ((tickS s n).bids.map BidV.cells), .sl 7 ((tickS s n).seats.map SeatV.cells)], .ref 1, .int .i64 (tickE s n)]) := by
  have c1 := refRightS_spec s hs hr
  have c2 := twinState_C s hs
  have c3 := within22_spec n 1 1000
  have c4 := fun m => refLate_spec m s.calls hs.calls
  have hck := fun h => right_clock (s := s) h
  obtain ⟨E, hE⟩ : ∃ E, E = tickE s n := ⟨_, rfl⟩
  have hE0 := hE
  simp only [tickE] at hE
  simp only [tickS, tickD, ← hE0]
  clear hE0
  simp only [StateV.cells] at c1 c2 ⊢
  refine sgo 85 2 [.cell 4 42, .tmp 5, .tmp 6] mixed Tryz.func109 ?_
  simp only [go_sem, seval]
  (with_reducible and_intros)<;>first|exact .dq|omega|skip
  refine CallN.pure c1 ?_
  cases b1 : rightS s
  · rw [b1] at hE
    rw [hE]
    simp only [go_sem, seval] <;> simp [StateV.zero, pl]
  have hck := hck b1
  rw [b1, if_pos rfl] at hE
  simp only [go_sem, seval]
  (with_reducible and_intros)<;>first|exact .dq|omega|skip
  refine CallN.pure c3 ?_
  cases b2 : within n 1 1000
  · rw [b2] at hE
    rw [hE]
    simp only [go_sem, seval] <;> simp [StateV.zero, pl]
  rw [b2, if_pos rfl] at hE
  simp only [within, Bool.and_eq_true, decide_eq_true_eq] at b2
  have hw : IntKind.wrap .i64 (s.now + n) = s.now + n := wr64 (by omega) (by omega)
  simp only [go_sem, seval, hw]
  (with_reducible and_intros)<;>first|exact .dq|omega|skip
  by_cases b3 : 1099511627776 < s.now + n
  · rw [if_pos b3] at hE
    have d : decide (1099511627776 < s.now + n) = true := by simpa using b3
    rw [hE]
    simp only [go_sem, seval, d] <;> simp [StateV.zero, pl]
  rw [if_neg b3] at hE
  have d : decide (1099511627776 < s.now + n) = false := by simpa using b3
  rw [hE]
  have c4 := c4 (s.now + n)
  have hll := lateA_len (s.now + n) s.calls
  have hcl := hs.calls
  obtain ⟨N, hN⟩ : ∃ N, N = s.now + n := ⟨_, rfl⟩
  have hw := hw.trans hN.symm
  rw [← hN] at d c4 hll ⊢
  obtain ⟨l, hl⟩ : ∃ l, l = lateA N s.calls := ⟨_, rfl⟩
  rw [← hl] at c4 hll ⊢
  simp only [go_sem, seval, d]
  (with_reducible and_intros)<;>first|exact .dq|omega|skip
  refine CallN.gen [] [] false (by simp) ?_
  simp only [go_sem, seval]
  refine CallG.intro c2 ?_
  simp only [go_sem, seval, hw]
  (with_reducible and_intros)<;>first|exact .dq|omega|skip
  refine CallN.pure c4 ?_
  clear c1 c2 c3 c4 hl hN
  simp only [go_sem, seval, List.length_map]
  (with_reducible and_intros)<;>first|exact .dq|omega|skip
  obtain ⟨R, hR⟩ : ∃ R, R = tickF l (s.roll, s.calls) := ⟨_, rfl⟩
  rw [← hR]
  refine LoopK.walk (S := RollV × List CallV) l.length [4, 7, 8] [80] (fun i _ => [(11, .int .i64 i), (10, .ref 944)])
    (fun i x => [(471, .own 4 (x.2.map CallV.cells)), (128, .box [.int .i64 N, .int .i64 s.day, .int .i64 s.phase, .sl 3 (x.1.ms.map MemberV.cells), .sl 12 (x.1.ns.map InstV.cells), .sl 4 (x.1.xs.map AssetV.cells), .int .i64 s.book.next, .sl 7 (s.book.ts.map TradeV.cells), .sl 4 (s.book.qs.map PosV.cells),
      .int .i64 s.led.last, .sl 4 (s.led.bs.map BalV.cells), .sl 3 (pl s.ps), .ref 471, .sl 5 (s.bids.map BidV.cells), .sl 7 (s.seats.map SeatV.cells)]), (944, .own 3 (((l.take i).map CallV.due).map DueV.cells))])
    (fun i x => tickF (l.drop i) x = R ∧ x.1.tiny ∧ x.2.length < 2 ^ 30) (s.roll, s.calls) ⟨hR.symm, hs.roll, hs.calls⟩ ?_ ?_ ?_
  · simp only [go_sem, seval] <;> simp
  · intro i x hi hdi hwi hI
    obtain ⟨ro, cs⟩ := x
    obtain ⟨hI, ht, hcs⟩ := hI
    dsimp only at hI ht hcs ⊢
    have hm := map_at (c := CallV.cells) l hi
    have hli : (i : Int) < (l.length : Int) := by omega
    have hlt : ((l.take i).map CallV.due).length = i := by simp; omega
    have hs1 : (l.take (i + 1)).map CallV.due = (l.take i).map CallV.due ++ [CallV.due l[i]] := by
      rw [List.take_add_one, List.getElem?_eq_getElem hi, List.map_append]; rfl
    rw [drop_at hi] at hI
    simp only [tickF] at hI
    obtain ⟨x, hx⟩ : ∃ x, x = l[i] := ⟨_, rfl⟩
    rw [← hx] at hm hs1 hI
    have cP := refPut_spec ro x.who 2 ht
    have cW := refWithout_own cs [x.who] hcs (by simp)
    have ht2 := putR_tiny ht x.who 2
    have hcs2 := withoutL_len cs [x.who]
    obtain ⟨T, hT⟩ : ∃ T, T = (l.take i).map CallV.due := ⟨_, rfl⟩
    rw [← hT] at hs1 hlt ⊢
    simp only [CallV.due] at hs1
    simp only [RollV.cells] at cP
    simp only [ints, List.map_cons, List.map_nil] at cW
    obtain ⟨Q, hQ⟩ : ∃ Q, Q = putR ro x.who 2 := ⟨_, rfl⟩
    obtain ⟨W, hW⟩ : ∃ W, W = withoutL cs [x.who] := ⟨_, rfl⟩
    rw [← hQ] at hI cP ht2
    rw [← hW] at hI cW hcs2
    simp only [go_sem, seval, List.length_map, hdi, hm, hlt]
    (with_reducible and_intros)<;>first|exact .dq|omega|skip
    refine CallN.pure cP ?_
    simp only [go_sem, seval, List.length_map, hdi, hm, hlt]
    (with_reducible and_intros)<;>first|exact .dq|omega|skip
    refine CallN.gen [] [] true (by simp) ?_
    simp only [go_sem, seval]
    refine CallG.intro cW ?_
    simp only [go_sem, seval, hwi]
    (with_reducible and_intros)<;>first|exact .dq|omega|skip
    · intro r hr' d hd
      obtain ⟨y, _, rfl⟩ := List.mem_map.1 hr'
      simp only [CallV.cells, List.mem_cons, List.not_mem_nil, or_false] at hd
      rcases hd with rfl | rfl | rfl | rfl <;> trivial
    refine RoundK.step (Q, W) hi ⟨hI, ht2, by dsimp only; omega⟩ ?_
    simp only [go_sem, seval, hs1] <;> simp
  intro x hdx hI
  obtain ⟨ro, cs⟩ := x
  have hI := hI.1
  rw [List.drop_length] at hI
  have hI : (ro, cs) = R := hI
  subst hI
  simp only [go_sem, seval, List.length_map, hdx, List.take_length]
theorem refTick_spec (s:StateV) (n:Int) (hs:s.small) (hr:s.rng):Abs.Spec Tryz.prog 109 [] [.agg s.cells,.int .i64 n] [] (.tup [.agg (tickS s n).cells,.sl 3 ((tickD s n).map DueV.cells),.int .i64 (tickE s n)]):=by
 refine Spec.frozen (refTick_own s n hs hr) [0,1] rfl ?_;intro r;rcases r with _ | _ | r<;>rfl
def marAt (s:StateV):Int:=min (s.now+3) 1099511627776
def marIn (s:StateV) (w:Int):Nat->Nat->List CallV × List DueV->(List CallV × List DueV) × Int
 | 0,_,x=>(x,0)
 | m+1,c,x=>if shE s w c=0 then marIn s w m (c+1) (askL x.1 ⟨w,c,shN s w c⟩ (marAt s),x.2++paidIf w c (shN s w c)) else (x,shE s w c)
def marOut (s:StateV):List Int->List CallV × List DueV->(List CallV × List DueV) × Int
 | [],x=>(x,0)
 | w :: r,x=>if (marIn s w 3 0 x).2=0 then marOut s r (marIn s w 3 0 x).1 else marIn s w 3 0 x
def marR (s:StateV):(List CallV × List DueV) × Int:=marOut s (thoseL s.roll [1]) (s.calls,[])
def marginE (s:StateV):Int:=if rightS s then (if s.phase=1 then (marR s).2 else 15) else 14
def marginS (s:StateV):StateV:=if marginE s=0 then { s with phase:=2,calls:=(marR s).1.1 } else .zero
def marginD (s:StateV):List DueV:=if marginE s=0 then (marR s).1.2 else []
theorem askL_len (xs:List CallV) (d:DueV) (a:Int):(askL xs d a).length<=48:=by
 unfold askL;split
 ·exact setW_len _ _ _
 ·simp
theorem refMarginDay_own (s:StateV) (hs:s.small) (hr:s.rng) (hlb:s.led.bs.length < 2 ^ 29) (hlp:s.ps.length < 2 ^ 29) :
  Abs.Spec Tryz.prog 107 [] [.agg s.cells] [.own 3 ((marginD s).map DueV.cells)] (.tup [.agg (marginS s).cells,.ref 0,.int .i64 (marginE s)]):=by
 have c1:=refRightS_spec s hs hr;have c2:=twinState_frozen s hs;have c3:=refThose_spec s.roll [1] hs.roll (by simp);have hfit:s.fit:=⟨hs.roll.small,hs.book,hs.led,hs.ps⟩
 have cS:=fun w c=>refShort_spec s w c hfit hr hlb hlp
 have cA:=fun xs d (h:xs.length < 2 ^ 30)=>refAsk_spec xs d (marAt s) h
 have htl:=thoseL_len s.roll [1];have hml:=hs.roll.1;have hck:=fun h=>right_clock (s:=s) h
 obtain ⟨E,hE⟩:=nmE (marginE s);have hE0:=hE;simp only [marginE] at hE;simp only [marginS,marginD,<- hE0];clear hE0;obtain ⟨R,hR⟩:=nmE (marR s);rw [<- hR] at hE |-;simp only [marR] at hR;obtain ⟨ws,hws⟩:=nmE (thoseL s.roll [1]);rw [<- hws] at c3 hR htl;clear hws;simp only [StateV.cells] at c1 c2 cS |-;rw [show ints [1]=[[.int .i64 1]] from rfl] at c3;simp only [RollV.cells] at c3;simp only [DueV.cells] at cA;refine sgo 82 1 [.cell 2 42,.tmp 3,.tmp 4] mixed Tryz.func107 ?_;simp only [go_sem,seval];(with_reducible and_intros)<;>first|exact .dq|omega|skip
 refine CallN.pure c1 ?_;cases b1:rightS s
 ·rw [b1] at hE;rw [hE];simp only [go_sem,seval]<;>simp [StateV.zero,pl]
 have hck:=hck b1;have hA:marAt s=min (s.now+3) 1099511627776:=rfl;have hw:IntKind.wrap .i64 (s.now+3)=s.now+3:=wr64 (by omega) (by omega);rw [b1,if_pos rfl] at hE;simp only [go_sem,seval];(with_reducible and_intros)<;>first|exact .dq|omega|skip
 by_cases b2:s.phase=1
 case neg =>
  have d:(s.phase==1)=false:=by simpa using b2
  rw [if_neg b2] at hE;rw [hE];simp only [go_sem,seval,bne,d]<;>simp [StateV.zero,pl]
 rw [if_pos b2] at hE;obtain ⟨ph,hph⟩:=nmE (s.phase);rw [<- hph] at b2 c1 c2 cS |-;have dph:(ph==1)=true:=by simpa using b2
 clear hph;simp only [go_sem,seval,bne,dph];(with_reducible and_intros)<;>first|exact .dq|omega|skip
 refine CallN.pure c2 ?_;simp only [go_sem,seval];(with_reducible and_intros)<;>first|exact .dq|omega|skip
 refine CallN.gen [432] [] false (by simp) ?_;simp only [go_sem,seval];refine CallG.intro c3 ?_;clear c1 c2 c3;simp only [go_sem,seval];(with_reducible and_intros)<;>first|exact .dq|omega|skip
 refine LoopK.walk (S:=List CallV × List DueV) ws.length [1,2,5,7] [32,48] (fun i _=>[(8,.int .i64 i),(6,.ref 1248)])
  (fun i x=>[(96,.box [.int .i64 s.now,.int .i64 s.day,.int .i64 ph,.sl 3 (s.roll.ms.map MemberV.cells),.sl 12 (s.roll.ns.map InstV.cells),.sl 4 (s.roll.xs.map AssetV.cells),.int .i64 s.book.next,.sl 7 (s.book.ts.map TradeV.cells),.sl 4 (s.book.qs.map PosV.cells),
   .int .i64 s.led.last,.sl 4 (s.led.bs.map BalV.cells),.sl 3 (pl s.ps),.sl 4 (x.1.map CallV.cells),.sl 5 (s.bids.map BidV.cells),.sl 7 (s.seats.map SeatV.cells)]),(1248,.own 3 (x.2.map DueV.cells))])
  (fun i x=>marOut s (ws.drop i) x=R/\x.1.length < 2 ^ 30/\x.2.length<=3*i) (s.calls,[]) ⟨hR.symm,hs.calls,Nat.le_refl _⟩ ?_ ?_ ?_
 ·simp only [go_sem,seval]<;>simp
 ·intro i x hi hdi hwi hI;obtain ⟨cs,ds⟩:=x;obtain ⟨hI,hcl,hdl⟩:=hI;dsimp only at hI hcl hdl |-;rw [drop_at hi] at hI;simp only [marOut] at hI;have hmw:=ints_at ws hi;have hli:(i:Int) < (ws.length:Int):=by omega
  have cSw:=cS ws[i];obtain ⟨w,hw1⟩:=nmE (ws[i]);rw [<- hw1] at hI hmw cSw;obtain ⟨Q,hQ⟩:=nmE (marIn s w 3 0 (cs,ds));rw [<- hQ] at hI;clear cS hw1;simp only [go_sem,seval,ints_len,hdi];(with_reducible and_intros)<;>first|exact .dq|omega|skip
  refine LoopK.walk (S:=List CallV × List DueV) 3 [1,2,5,7,8] [32,48] (fun c _=>[(9,.int .i64 c),(6,.ref 1248)])
   (fun c x=>[(96,.box [.int .i64 s.now,.int .i64 s.day,.int .i64 ph,.sl 3 (s.roll.ms.map MemberV.cells),.sl 12 (s.roll.ns.map InstV.cells),.sl 4 (s.roll.xs.map AssetV.cells),.int .i64 s.book.next,.sl 7 (s.book.ts.map TradeV.cells),.sl 4 (s.book.qs.map PosV.cells),
    .int .i64 s.led.last,.sl 4 (s.led.bs.map BalV.cells),.sl 3 (pl s.ps),.sl 4 (x.1.map CallV.cells),.sl 5 (s.bids.map BidV.cells),.sl 7 (s.seats.map SeatV.cells)]),(1248,.own 3 (x.2.map DueV.cells))])
   (fun c x=>marIn s w (3-c) c x=Q/\x.1.length < 2 ^ 30/\x.2.length<=3*i+c) (cs,ds) ⟨hQ.symm,hcl,hdl⟩ ?_ ?_ ?_
  ·simp only [go_sem,seval]<;>simp
  ·intro c x hc hdc hwc hJ;obtain ⟨cs,ds⟩:=x;obtain ⟨hJ,hcl,hdl⟩:=hJ;dsimp only at hJ hcl hdl |-;have hdc:decide ((c:Int) < 3)=true:=hdc;obtain ⟨m,hm⟩:∃ m,3-c=m+1:=⟨3-c-1,by omega⟩
   have hm2:3-(c+1)=m:=by omega
   rw [hm] at hJ;simp only [marIn] at hJ;have cSc:=cSw c;have cAc:=cA cs ⟨w,c,shN s w c⟩ hcl;have hal:=askL_len cs ⟨w,c,shN s w c⟩ (marAt s);dsimp only at cAc;obtain ⟨n,hn⟩:=nmE (shN s w c);obtain ⟨e,he⟩:=nmE (shE s w c);rw [<- hn] at cSc cAc hJ hal;rw [<- he] at cSc hJ;rw [hA] at cAc hJ hal;clear cA cSw hn he;simp only [go_sem,seval,hdc,ints_len,hmw,hli];(with_reducible and_intros)<;>first|exact .dq|omega|skip
   refine CallN.pure cSc ?_
   by_cases q1:e=0
   case neg =>
    have d:(e==0)=false:=by simpa using q1
    rw [if_neg q1] at hJ;rw [<- hJ] at hI;dsimp only at hI;rw [if_neg q1] at hI;rw [<- hI] at hE;rw [hE];simp only [if_neg q1];simp only [go_sem,seval,bne,d]
    all_goals simp [StateV.zero,pl]
   rw [if_pos q1] at hJ;rw [q1];simp only [go_sem,seval,ints_len,hmw,hli,hw];(with_reducible and_intros)<;>first|exact .dq|omega|skip
   refine CallN.pure cAc ?_;obtain ⟨A,hA1⟩:=nmE (askL cs ⟨w,c,n⟩ (min (s.now+3) 1099511627776));rw [<- hA1] at hJ hal |-
   by_cases q2:n=0
   ·have hJ:marIn s w m (c+1) (A,ds)=Q:=by rw [<- hJ];simp [paidIf,q2]
    rw [q2];simp only [go_sem,seval,bne,hwc];(with_reducible and_intros)<;>first|exact .dq|omega|skip
    refine RoundK.step (A,ds) hc ⟨by rw [hm2];exact hJ,by dsimp only;omega,by dsimp only;omega⟩ ?_;simp only [go_sem,seval]<;>simp
   ·have d:(n==0)=false:=by simpa using q2
    have hJ:marIn s w m (c+1) (A,ds++[⟨w,c,n⟩])=Q:=by rw [<- hJ];simp [paidIf,q2]
    simp only [go_sem,seval,bne,d,hwc,lml];(with_reducible and_intros)<;>first|exact .dq|omega|skip
    refine RoundK.step (A,ds++[⟨w,c,n⟩]) hc ⟨by rw [hm2];exact hJ,by dsimp only;omega,by simp;omega⟩ ?_;simp only [go_sem,seval]<;>simp
  intro x _ hJ;obtain ⟨cs,ds⟩:=x;obtain ⟨hJ,hcl,hdl⟩:=hJ;have hJ:((cs,ds),(0:Int))=Q:=hJ;rw [<- hJ] at hI;dsimp only at hI hcl hdl;rw [if_pos rfl] at hI;dsimp only
  try refine WeakK.id ?_
  simp only [go_sem,seval,hwi];(with_reducible and_intros)<;>first|exact .dq|omega|skip
  refine RoundK.step (cs,ds) hi ⟨hI,hcl,by dsimp only;omega⟩ ?_;simp only [go_sem,seval]<;>simp
 intro x hdx hI;obtain ⟨cs,ds⟩:=x;have hI:=hI.1;rw [List.drop_length] at hI;have hI:((cs,ds),(0:Int))=R:=hI;subst hI;rw [hE];dsimp only;simp only [go_sem,seval,ints_len,hdx]
theorem refMarginDay_spec (s:StateV) (hs:s.small) (hr:s.rng) (hlb:s.led.bs.length < 2 ^ 29) (hlp:s.ps.length < 2 ^ 29):Abs.Spec Tryz.prog 107 [] [.agg s.cells] [] (.tup [.agg (marginS s).cells,.sl 3 ((marginD s).map DueV.cells),.int .i64 (marginE s)]):=by
 refine Spec.frozen (refMarginDay_own s hs hr hlb hlp) [0] rfl ?_;intro r;rcases r with _ | r<;>rfl
structure CmdV where
 client:Int
 seq:Int
 kind:Int
 who:Int
 other:Int
 no:Int
 inst:Int
 cur:Int
 qty:Int
 price:Int
 amt:Int
 s0:Int
 s1:Int
 s2:Int
 s3:Int
 s4:Int
 s5:Int
deriving DecidableEq
@[reducible] def CmdV.cells (x:CmdV):List D:=[.int .i64 x.client,.int .i64 x.seq,.int .i64 x.kind,.int .i64 x.who,.int .i64 x.other,.int .i64 x.no,.int .i64 x.inst,.int .i64 x.cur,.int .i64 x.qty,.int .i64 x.price,.int .i64 x.amt,.int .i64 x.s0,.int .i64 x.s1,.int .i64 x.s2,.int .i64 x.s3,.int .i64 x.s4,.int .i64 x.s5]
theorem within25_spec (a b c:Int):Abs.Spec Tryz.prog 100 [] [.int .i64 a,.int .i64 b,.int .i64 c] [] (.bool (within a b c)):=by
 refine sgo 15 3 [.tmp 6] mixed Tryz.func100 ?_;simp only [go_sem,seval]
 repeat' with_reducible first|apply And.intro|exact .dq|refine CallN.pure (by assumption) ?_|refine .splitDN (fun h=>?_) fun h=>?_|refine .splitD (fun h=>?_) fun h=>?_|refine .splitN (fun h=>?_) fun h=>?_|refine .split (fun h=>?_) fun h=>?_|refine .id ?_|refine RoundK.next (by omega) ?_ ?_|exact trivial|simp only [*,go_sem,seval]
 all_goals (simp only [within];simp<;>omega)
theorem ref25Acct_spec (k w c:Int):Abs.Spec Tryz.prog 104 [] [.int .i64 k,.int .i64 w,.int .i64 c] [] (.agg [.int .i64 k,.int .i64 w,.int .i64 c]):=by
 refine sgo 11 3 [.cell 6 64] mixed Tryz.func104 ?_;simp only [go_sem,seval]
theorem ref25No_spec (e:Int):Abs.Spec Tryz.prog 101 [] [.int .i64 e] [] (.agg [.int .i64 e,.int .i64 0,.int .i64 0,.nil,.nil]):=by
 refine sgo 5 1 [.cell 2 52] mixed Tryz.func101 ?_;simp only [go_sem,seval]
def actE (r:RollV) (w:Int):Int:=if memIs r w then (if (memOf r w).state=1 then 0 else 14) else 10
theorem ref25Active_spec (s:StateV) (w:Int) (hl:s.roll.small):Abs.Spec Tryz.prog 224 [] [.agg s.cells,.int .i64 w] [] (.int .i64 (actE s.roll w)):=by
 have h1:=refMemberFind_spec s.roll w hl;simp only [StateV.cells] at h1 |-;simp only [RollV.cells] at h1;unfold actE;obtain ⟨m,hm⟩:=nmE (memOf s.roll w);rw [<- hm] at h1 |-;refine sgo 19 2 [.tmp 4] mixed Tryz.func224 ?_;simp only [go_sem,seval];(with_reducible and_intros)<;>first|exact .dq|omega|skip
 refine CallN.pure h1 ?_;cases q:memIs s.roll w
 ·simp only [go_sem,seval]<;>simp
 simp only [go_sem,seval,bne];(with_reducible and_intros)<;>first|exact .dq|omega|skip
 by_cases q2:m.state=1
 ·have d:(m.state==1)=true:=by simpa using q2
  simp only [go_sem,seval,d,if_pos q2]<;>simp
 ·have d:(m.state==1)=false:=by simpa using q2
  simp only [go_sem,seval,d,if_neg q2]<;>simp
def covE (s:StateV) (w c:Int):Int:=if shE s w c=0 then (if decide (0 < shN s w c)||decide (0<=calledL w c s.calls) then 17 else 0) else shE s w c
theorem ref25Covered_spec (s:StateV) (w c:Int) (hs:s.small) (hr:s.rng) (hlb:s.led.bs.length < 2 ^ 29) (hlp:s.ps.length < 2 ^ 29):Abs.Spec Tryz.prog 226 [] [.agg s.cells,.int .i64 w,.int .i64 c] [] (.int .i64 (covE s w c)):=by
 have hfit:s.fit:=⟨hs.roll.small,hs.book,hs.led,hs.ps⟩
 have h1:=refShort_spec s w c hfit hr hlb hlp;have h2:=refCalled_spec w c s.calls (by have:=hs.calls;omega);simp only [StateV.cells] at h1 |-;unfold covE;obtain ⟨e,he⟩:=nmE (shE s w c);obtain ⟨n,hn⟩:=nmE (shN s w c);rw [<- he,<- hn] at h1;rw [<- he,<- hn];refine sgo 29 3 [.tmp 6] mixed Tryz.func226 ?_;simp only [go_sem,seval];(with_reducible and_intros)<;>first|exact .dq|omega|skip
 refine CallN.pure h1 ?_
 by_cases q:e=0
 case neg =>
  have d:(e==0)=false:=by simpa using q
  simp only [go_sem,seval,bne,d,if_neg q]
 rw [q];simp only [go_sem,seval];(with_reducible and_intros)<;>first|exact .dq|omega|skip
 cases q2:decide (0 < n)
 ·simp only [go_sem,seval];(with_reducible and_intros)<;>first|exact .dq|omega|skip
  refine CallN.pure h2 ?_;cases q3:decide (0<=calledL w c s.calls)
  ·simp only [go_sem,seval,q3]<;>simp
  ·simp only [go_sem,seval,q3]<;>simp
 ·simp only [go_sem,seval]<;>simp
def seatL (n:Int):List SeatV->Int->Int
 | [],_=>-1
 | x :: r,i=>if x.client==n then i else seatL n r (i+1)
theorem ref25Seat_spec (s:StateV) (n:Int) (hl:s.seats.length < 2 ^ 40):Abs.Spec Tryz.prog 32 [] [.agg s.cells,.int .i64 n] [] (.int .i64 (seatL n s.seats 0)):=by
 simp only [StateV.cells];refine sgo 22 2 [.tmp 4] mixed Tryz.func32 ?_;simp only [go_sem,seval,lml];refine LoopK.walk (S:=Unit) s.seats.length [1,2] [48] (fun i _=>[(5,.int .i64 i)]) (fun _ _=>[]) (fun i _=>seatL n (s.seats.drop i) i=seatL n s.seats 0) () rfl ?_ ?_ ?_
 ·simp only [go_sem,seval]
  try simp
 ·intro i _ hi hdi hwi hI;have hm:=map_at (c:=SeatV.cells) s.seats hi;have hli:(i:Int) < (s.seats.length:Int):=by omega
  obtain ⟨x,hx⟩:=nmE (s.seats[i]);rw [drop_at hi,<- hx] at hI;rw [<- hx] at hm;simp only [seatL] at hI;simp only [SeatV.cells] at hm;simp only [go_sem,seval,lml,hdi,hm];(with_reducible and_intros)<;>first|exact .dq|omega|skip
  cases q:x.client==n
  ·rw [q] at hI;simp only [go_sem,seval,hwi];refine RoundK.step () hi (by simpa using hI) ?_;simp only [go_sem,seval]
  ·rw [q,if_pos rfl] at hI;rw [<- hI];simp only [go_sem,seval]
 ·intro _ hdx hI;rw [List.drop_length] at hI;rw [<- hI];simp only [go_sem,seval,lml,hdx,seatL]
def byteAt (s:ByteArray) (i:Nat):Int:=((s[i]?).map (fun x=>(x.toNat:Int))).getD 0
def hasF (s:ByteArray) (b:Int):Nat->Nat->Bool
 | 0,_=>false
 | m+1,i=>byteAt s i==b||hasF s b m (i+1)
def hasB (s:ByteArray) (b:Int):Bool:=hasF s b s.size 0
theorem ref25Has_spec (s:ByteArray) (b:Int) (hl:s.size < 2 ^ 60):Abs.Spec Tryz.prog 222 [] [.str s,.int .u8 b] [] (.bool (hasB s b)):=by
 refine sgo 17 2 [.tmp 4] mixed Tryz.func222 ?_;simp only [go_sem,seval];refine LoopK.walk (S:=Unit) s.size [0,1] [] (fun i _=>[(5,.int .i64 i)]) (fun _ _=>[]) (fun i _=>hasF s b (s.size-i) i=hasB s b) () rfl ?_ ?_ ?_
 ·simp only [go_sem,seval]
  try simp
 ·intro i _ hi hdi hwi hI;obtain ⟨m,hm⟩:∃ m,s.size-i=m+1:=⟨s.size-i-1,by omega⟩
  have hm2:s.size-(i+1)=m:=by omega
  rw [hm] at hI;simp only [hasF] at hI;have hli:(i:Int) < (s.size:Int):=by omega
  have hb:((s[i]?).map (fun x=>(x.toNat:Int))).getD 0=byteAt s i:=rfl;simp only [go_sem,seval,hdi,Int.toNat_natCast,hb];(with_reducible and_intros)<;>first|exact .dq|omega|skip
  cases q:byteAt s i==b
  ·rw [q,Bool.false_or] at hI;simp only [go_sem,seval,hwi];refine RoundK.step () hi (by rw [hm2];exact hI) ?_;simp only [go_sem,seval]
  ·rw [q,Bool.true_or] at hI;rw [<- hI];simp only [go_sem,seval]
 ·intro _ hdx hI;rw [Nat.sub_self] at hI;rw [<- hI];simp only [go_sem,seval,hdx,hasF]
def namesT:List ByteArray:=[⟨#[]⟩,⟨#[119,97]⟩,⟨#[105,99,113,97,115]⟩,⟨#[110,99,112,97]⟩,⟨#[119,99,97]⟩,⟨#[119,99,97]⟩,⟨#[119,110,113]⟩,⟨#[119,110,113]⟩,⟨#[119,99,97]⟩,⟨#[99,97]⟩,⟨#[119,111,105,113,112]⟩,⟨#[110]⟩,⟨#[110,113,112]⟩,⟨#[105,112]⟩,⟨#[]⟩,⟨#[]⟩,⟨#[]⟩,⟨#[97]⟩,⟨#[119,105,111,113,112]⟩,⟨#[119]⟩,⟨#[]⟩,⟨#[110,119,99]⟩,⟨#[119,105]⟩]
def namesB (k:Int):ByteArray:=namesT.getD k.toNat ⟨#[]⟩
theorem ref25Names_spec (k:Int) (h:1<=k/\k<=22):Abs.Spec Tryz.prog 221 [] [.int .i64 k] [] (.str (namesB k)):=by
 have hk:k=1\/k=2\/k=3\/k=4\/k=5\/k=6\/k=7\/k=8\/k=9\/k=10\/k=11\/k=12\/k=13\/k=14\/k=15\/k=16\/k=17\/k=18\/k=19\/k=20\/k=21\/k=22:=by omega
 clear h;rcases hk with rfl | rfl | rfl | rfl | rfl | rfl | rfl | rfl | rfl | rfl | rfl | rfl | rfl | rfl | rfl | rfl | rfl | rfl | rfl | rfl | rfl | rfl
 ·refine sgo 17 1 [.tmp 2] mixed Tryz.func221 ?_;simp only [go_sem,seval];exact (rfl:(⟨#[119,97]⟩:ByteArray)=namesB 1)
 ·refine sgo 17 1 [.tmp 2] mixed Tryz.func221 ?_;simp only [go_sem,seval];exact (rfl:(⟨#[105,99,113,97,115]⟩:ByteArray)=namesB 2)
 ·refine sgo 17 1 [.tmp 2] mixed Tryz.func221 ?_;simp only [go_sem,seval];exact (rfl:(⟨#[110,99,112,97]⟩:ByteArray)=namesB 3)
 ·refine sgo 17 1 [.tmp 2] mixed Tryz.func221 ?_;simp only [go_sem,seval];exact (rfl:(⟨#[119,99,97]⟩:ByteArray)=namesB 4)
 ·refine sgo 17 1 [.tmp 2] mixed Tryz.func221 ?_;simp only [go_sem,seval];exact (rfl:(⟨#[119,99,97]⟩:ByteArray)=namesB 5)
 ·refine sgo 17 1 [.tmp 2] mixed Tryz.func221 ?_;simp only [go_sem,seval];exact (rfl:(⟨#[119,110,113]⟩:ByteArray)=namesB 6)
 ·refine sgo 17 1 [.tmp 2] mixed Tryz.func221 ?_;simp only [go_sem,seval];exact (rfl:(⟨#[119,110,113]⟩:ByteArray)=namesB 7)
 ·refine sgo 17 1 [.tmp 2] mixed Tryz.func221 ?_;simp only [go_sem,seval];exact (rfl:(⟨#[119,99,97]⟩:ByteArray)=namesB 8)
 ·refine sgo 17 1 [.tmp 2] mixed Tryz.func221 ?_;simp only [go_sem,seval];exact (rfl:(⟨#[99,97]⟩:ByteArray)=namesB 9)
 ·refine sgo 17 1 [.tmp 2] mixed Tryz.func221 ?_;simp only [go_sem,seval];exact (rfl:(⟨#[119,111,105,113,112]⟩:ByteArray)=namesB 10)
 ·refine sgo 17 1 [.tmp 2] mixed Tryz.func221 ?_;simp only [go_sem,seval];exact (rfl:(⟨#[110]⟩:ByteArray)=namesB 11)
 ·refine sgo 17 1 [.tmp 2] mixed Tryz.func221 ?_;simp only [go_sem,seval];exact (rfl:(⟨#[110,113,112]⟩:ByteArray)=namesB 12)
 ·refine sgo 17 1 [.tmp 2] mixed Tryz.func221 ?_;simp only [go_sem,seval];exact (rfl:(⟨#[105,112]⟩:ByteArray)=namesB 13)
 ·refine sgo 17 1 [.tmp 2] mixed Tryz.func221 ?_;simp only [go_sem,seval];exact (rfl:(⟨#[]⟩:ByteArray)=namesB 14)
 ·refine sgo 17 1 [.tmp 2] mixed Tryz.func221 ?_;simp only [go_sem,seval];exact (rfl:(⟨#[]⟩:ByteArray)=namesB 15)
 ·refine sgo 17 1 [.tmp 2] mixed Tryz.func221 ?_;simp only [go_sem,seval];exact (rfl:(⟨#[]⟩:ByteArray)=namesB 16)
 ·refine sgo 17 1 [.tmp 2] mixed Tryz.func221 ?_;simp only [go_sem,seval];exact (rfl:(⟨#[97]⟩:ByteArray)=namesB 17)
 ·refine sgo 17 1 [.tmp 2] mixed Tryz.func221 ?_;simp only [go_sem,seval];exact (rfl:(⟨#[119,105,111,113,112]⟩:ByteArray)=namesB 18)
 ·refine sgo 17 1 [.tmp 2] mixed Tryz.func221 ?_;simp only [go_sem,seval];exact (rfl:(⟨#[119]⟩:ByteArray)=namesB 19)
 ·refine sgo 17 1 [.tmp 2] mixed Tryz.func221 ?_;simp only [go_sem,seval];exact (rfl:(⟨#[]⟩:ByteArray)=namesB 20)
 ·refine sgo 17 1 [.tmp 2] mixed Tryz.func221 ?_;simp only [go_sem,seval];exact (rfl:(⟨#[110,119,99]⟩:ByteArray)=namesB 21)
 ·refine sgo 17 1 [.tmp 2] mixed Tryz.func221 ?_;simp only [go_sem,seval];exact (rfl:(⟨#[119,105]⟩:ByteArray)=namesB 22)
def fieldV (c:CmdV) (b:Int):Int:=if b=119 then c.who else if b=111 then c.other else if b=110 then c.no else if b=105 then c.inst else if b=99 then c.cur else if b=113 then c.qty else if b=112 then c.price else c.amt
theorem ref25Field_spec (c:CmdV) (b:Int):Abs.Spec Tryz.prog 223 [] [.agg c.cells,.int .u8 b] [] (.int .i64 (fieldV c b)):=by
 simp only [CmdV.cells];unfold fieldV;refine sgo 36 2 [.tmp 4] mixed Tryz.func223 ?_;simp only [go_sem,seval];(with_reducible and_intros)<;>first|exact .dq|omega|skip
 by_cases q0:b=119
 ·have d:(b==119)=true:=by simpa using q0
  simp only [go_sem,seval,d,if_pos q0]
 have d0:(b==119)=false:=by simpa using q0
 simp only [go_sem,seval,d0]
 by_cases q1:b=111
 ·have d:(b==111)=true:=by simpa using q1
  simp only [go_sem,seval,d,if_pos q1,if_neg q0]
 have d1:(b==111)=false:=by simpa using q1
 simp only [go_sem,seval,d1]
 by_cases q2:b=110
 ·have d:(b==110)=true:=by simpa using q2
  simp only [go_sem,seval,d,if_pos q2,if_neg q0,if_neg q1]
 have d2:(b==110)=false:=by simpa using q2
 simp only [go_sem,seval,d2]
 by_cases q3:b=105
 ·have d:(b==105)=true:=by simpa using q3
  simp only [go_sem,seval,d,if_pos q3,if_neg q0,if_neg q1,if_neg q2]
 have d3:(b==105)=false:=by simpa using q3
 simp only [go_sem,seval,d3]
 by_cases q4:b=99
 ·have d:(b==99)=true:=by simpa using q4
  simp only [go_sem,seval,d,if_pos q4,if_neg q0,if_neg q1,if_neg q2,if_neg q3]
 have d4:(b==99)=false:=by simpa using q4
 simp only [go_sem,seval,d4]
 by_cases q5:b=113
 ·have d:(b==113)=true:=by simpa using q5
  simp only [go_sem,seval,d,if_pos q5,if_neg q0,if_neg q1,if_neg q2,if_neg q3,if_neg q4]
 have d5:(b==113)=false:=by simpa using q5
 simp only [go_sem,seval,d5]
 by_cases q6:b=112
 ·have d:(b==112)=true:=by simpa using q6
  simp only [go_sem,seval,d,if_pos q6,if_neg q0,if_neg q1,if_neg q2,if_neg q3,if_neg q4,if_neg q5]
 have d6:(b==112)=false:=by simpa using q6
 simp only [go_sem,seval,d6,if_neg q0,if_neg q1,if_neg q2,if_neg q3,if_neg q4,if_neg q5,if_neg q6]
def formF (c:CmdV) (l a:ByteArray):Nat->Nat->Int
 | 0,_=>0
 | m+1,i=>if !hasB l (byteAt a i)&&!(fieldV c (byteAt a i)==0) then 6 else formF c l a m (i+1)
def shiftV (c:CmdV):Nat->Int
 | 0=>c.s0
 | 1=>c.s1
 | 2=>c.s2
 | 3=>c.s3
 | 4=>c.s4
 | _=>c.s5
def formG (c:CmdV) (l:ByteArray):Nat->Nat->Int
 | 0,_=>0
 | m+1,i=>if !hasB l 115&&!(shiftV c i==0) then 6 else formG c l m (i+1)
def allF:ByteArray:=⟨#[119,111,110,105,99,113,112,97]⟩
def formE (c:CmdV):Int:=if within c.kind 1 22 then (if formF c (namesB c.kind) allF 8 0=0 then (if formG c (namesB c.kind) 6 0=0 then (if within c.client 1 8 then 0 else 6) else 6) else 6) else 21
theorem formF_or (c:CmdV) (l a:ByteArray):∀ m i,formF c l a m i=0\/formF c l a m i=6
 | 0,_=>.inl rfl
 | m+1,i=>by simp only [formF];split;exact .inr rfl;exact formF_or c l a m (i+1)
theorem namesB_size (k:Int):(namesB k).size < 2 ^ 60:=by
 unfold namesB;generalize k.toNat=n;rcases (by omega:n < 23\/23<=n) with h | h
 ·have:∀ n < 23,(namesT.getD n ⟨#[]⟩).size < 8:=by decide
  exact Nat.lt_trans (this n h) (by decide)
 ·rw [List.getD_eq_getElem?_getD,List.getElem?_eq_none (by simpa [namesT] using h)]
  decide
theorem ref25Form_spec (c:CmdV):Abs.Spec Tryz.prog 93 [] [.agg c.cells] [] (.int .i64 (formE c)):=by
 have c1:=within25_spec c.kind 1 22;have c2:=fun h=>ref25Names_spec c.kind h
 have c3:=within25_spec c.client 1 8;have cH:=fun b=>ref25Has_spec (namesB c.kind) b (namesB_size c.kind)
 have cF:=fun b=>ref25Field_spec c b
 obtain ⟨E,hE⟩:=nmE (formE c);rw [<- hE];simp only [formE] at hE;obtain ⟨l,hl⟩:=nmE (namesB c.kind);rw [<- hl] at c2 cH hE;clear hl;simp only [CmdV.cells] at cF |-;refine sgo 52 1 [.tmp 2] mixed Tryz.func93 ?_;simp only [go_sem,seval];(with_reducible and_intros)<;>first|exact .dq|omega|skip
 refine CallN.pure c1 ?_;cases b1:within c.kind 1 22
 ·rw [b1] at hE;rw [hE];simp only [go_sem,seval]<;>simp
 have c2:=c2 (by simpa [within] using b1);rw [b1,if_pos rfl] at hE;simp only [go_sem,seval];(with_reducible and_intros)<;>first|exact .dq|omega|skip
 refine CallN.pure c2 ?_;clear c1 c2 b1;simp only [go_sem,seval];(with_reducible and_intros)<;>first|exact .dq|omega|skip
 rw [show (⟨#[119,111,110,105,99,113,112,97]⟩:ByteArray)=allF from rfl];have hA8:allF.size=8:=rfl;obtain ⟨A,hA⟩:=nmE (allF);rw [<- hA] at hE hA8 |-;obtain ⟨F,hF⟩:=nmE (formF c l A 8 0);rw [<- hF] at hE;have hF6:=formF_or c l A 8 0;rw [<- hF] at hF6;refine LoopK.walk (S:=Unit) A.size [1,3,4] [32,224] (fun i _=>[(5,.int .i64 i)]) (fun _ _=>[]) (fun i _=>formF c l A (A.size-i) i=F) () (by rw [hA8];exact hF.symm) ?_ ?_ ?_
 ·simp only [go_sem,seval]
  try simp
 ·intro i _ hi hdi hwi hI;obtain ⟨m,hm⟩:∃ m,A.size-i=m+1:=⟨A.size-i-1,by omega⟩
  have hm2:A.size-(i+1)=m:=by omega
  rw [hm] at hI;simp only [formF] at hI;have hli:(i:Int) < (A.size:Int):=by omega
  have hb:((A[i]?).map (fun x=>(x.toNat:Int))).getD 0=byteAt A i:=rfl;have cHi:=cH (byteAt A i);have cFi:=cF (byteAt A i);obtain ⟨b,hbb⟩:=nmE (byteAt A i);rw [<- hbb] at hb hI cHi cFi;clear cH cF c3;simp only [go_sem,seval,hdi,Int.toNat_natCast,hb];(with_reducible and_intros)<;>first|exact .dq|omega|skip
  refine CallN.pure cHi ?_;cases q:hasB l b
  ·rw [q,Bool.not_false,Bool.true_and] at hI;simp only [go_sem,seval,Int.toNat_natCast,hb];(with_reducible and_intros)<;>first|exact .dq|omega|skip
   refine CallN.pure cFi ?_;cases q2:fieldV c b==0
   ·rw [q2,Bool.not_false,if_pos rfl] at hI;have:E=6:=by rw [hE,<- hI];rfl
    rw [this];simp only [go_sem,seval,bne,q2]
   ·rw [q2] at hI;simp only [go_sem,seval,bne,q2,hwi];refine RoundK.step () hi (by rw [hm2];simpa using hI) ?_;simp only [go_sem,seval]
  ·rw [q] at hI;simp only [go_sem,seval,hwi];refine RoundK.step () hi (by rw [hm2];simpa using hI) ?_;simp only [go_sem,seval]
 intro _ hdx hI;rw [Nat.sub_self] at hI;have hI:F=0:=hI.symm;rw [if_pos hI] at hE;clear hF hF6 cF hI;obtain ⟨G,hG⟩:=nmE (formG c l 6 0);rw [<- hG] at hE;have cH:=cH 115;simp only [go_sem,seval,hdx];(with_reducible and_intros)<;>first|exact .dq|omega|skip
 refine LoopK.walk (S:=Unit) 6 [1,3] [32,224] (fun i _=>[(6,.int .i64 i)]) (fun _ _=>[]) (fun i _=>formG c l (6-i) i=G) () hG.symm ?_ ?_ ?_
 ·simp only [go_sem,seval]
  try simp
 ·intro i _ hi hdi hwi hI;have hdi:decide ((i:Int) < 6)=true:=hdi;obtain ⟨m,hm⟩:∃ m,6-i=m+1:=⟨6-i-1,by omega⟩
  have hm2:6-(i+1)=m:=by omega
  rw [hm] at hI;simp only [formG] at hI;simp only [go_sem,seval,hdi];(with_reducible and_intros)<;>first|exact .dq|omega|skip
  refine CallN.pure cH ?_;cases q:hasB l 115
  case true =>
   rw [q] at hI;simp only [go_sem,seval,hwi];refine RoundK.step () hi (by rw [hm2];simpa using hI) ?_;simp only [go_sem,seval]
  rw [q,Bool.not_false,Bool.true_and] at hI;rcases (by omega:i=0\/i=1\/i=2\/i=3\/i=4\/i=5) with rfl | rfl | rfl | rfl | rfl | rfl
  ·simp only [shiftV] at hI;cases q2:c.s0==0
   ·rw [q2,Bool.not_false,if_pos rfl] at hI;have:E=6:=by rw [hE,<- hI];rfl
    rw [this];simp only [go_sem,seval,bne,q2]<;>simp
   ·rw [q2] at hI;simp only [go_sem,seval,bne,q2,hwi];refine RoundK.step () hi (by rw [hm2];simpa using hI) ?_;simp only [go_sem,seval];rfl
  ·simp only [shiftV] at hI;cases q2:c.s1==0
   ·rw [q2,Bool.not_false,if_pos rfl] at hI;have:E=6:=by rw [hE,<- hI];rfl
    rw [this];simp only [go_sem,seval,bne,q2]<;>simp
   ·rw [q2] at hI;simp only [go_sem,seval,bne,q2,hwi];refine RoundK.step () hi (by rw [hm2];simpa using hI) ?_;simp only [go_sem,seval];rfl
  ·simp only [shiftV] at hI;cases q2:c.s2==0
   ·rw [q2,Bool.not_false,if_pos rfl] at hI;have:E=6:=by rw [hE,<- hI];rfl
    rw [this];simp only [go_sem,seval,bne,q2]<;>simp
   ·rw [q2] at hI;simp only [go_sem,seval,bne,q2,hwi];refine RoundK.step () hi (by rw [hm2];simpa using hI) ?_;simp only [go_sem,seval];rfl
  ·simp only [shiftV] at hI;cases q2:c.s3==0
   ·rw [q2,Bool.not_false,if_pos rfl] at hI;have:E=6:=by rw [hE,<- hI];rfl
    rw [this];simp only [go_sem,seval,bne,q2]<;>simp
   ·rw [q2] at hI;simp only [go_sem,seval,bne,q2,hwi];refine RoundK.step () hi (by rw [hm2];simpa using hI) ?_;simp only [go_sem,seval];rfl
  ·simp only [shiftV] at hI;cases q2:c.s4==0
   ·rw [q2,Bool.not_false,if_pos rfl] at hI;have:E=6:=by rw [hE,<- hI];rfl
    rw [this];simp only [go_sem,seval,bne,q2]<;>simp
   ·rw [q2] at hI;simp only [go_sem,seval,bne,q2,hwi];refine RoundK.step () hi (by rw [hm2];simpa using hI) ?_;simp only [go_sem,seval];rfl
  ·simp only [shiftV] at hI;cases q2:c.s5==0
   ·rw [q2,Bool.not_false,if_pos rfl] at hI;have:E=6:=by rw [hE,<- hI];rfl
    rw [this];simp only [go_sem,seval,bne,q2]<;>simp
   ·rw [q2] at hI;simp only [go_sem,seval,bne,q2,hwi];refine RoundK.step () hi (by rw [hm2];simpa using hI) ?_;simp only [go_sem,seval];rfl
 intro _ hdx hI;have hI:G=0:=hI.symm;rw [if_pos hI] at hE;have hdx:decide (((6:Nat):Int) < 6)=false:=hdx;simp only [go_sem,seval];(with_reducible and_intros)<;>first|exact .dq|omega|skip
 refine CallN.pure c3 ?_;cases b3:within c.client 1 8
 ·rw [b3] at hE;rw [hE];simp only [go_sem,seval]<;>simp
 ·rw [b3] at hE;rw [hE];simp only [go_sem,seval]<;>simp
def ReplyV.err (e:Int):ReplyV:=⟨e,0,0,[],[]⟩
def knownT (c:CmdV) (last:Int):ReplyV × Bool:=if c.seq=IntKind.wrap .i64 (last+1) then (if 1099511627776 < c.seq then (.err 1,true) else (.err 0,false)) else (.err 19,true)
def SeatV.zero:SeatV:=⟨0,0,.err 0⟩
def seatAt (s:StateV) (i:Int):SeatV:=s.seats.getD i.toNat .zero
def knownR (s:StateV) (c:CmdV):ReplyV × Bool:=
 if formE c=0 then (if 0<=seatL c.client s.seats 0 then (if c.seq=(seatAt s (seatL c.client s.seats 0)).seq then ((seatAt s (seatL c.client s.seats 0)).r,true) else if c.seq < (seatAt s (seatL c.client s.seats 0)).seq then (.err 18,true) else knownT c (seatAt s (seatL c.client s.seats 0)).seq) else knownT c 0) else (.err (formE c),true)
theorem seatL_lt (n:Int):∀ (l:List SeatV) (k:Int),0<=k->0<=seatL n l k->∃ j:Nat,j < l.length/\seatL n l k=k+j
 | [],k,_,h=>by simp [seatL] at h
 | x :: r,k,hk,h=>by
  simp only [seatL] at h |-;split
  ·exact ⟨0,by simp,by simp⟩
  ·rename_i hx;rw [if_neg hx] at h;obtain ⟨j,h1,h2⟩:=seatL_lt n r (k+1) (by omega) h;exact ⟨j+1,by simp;omega,by rw [h2];omega⟩
theorem ref25Known_spec (s:StateV) (c:CmdV) (hs:s.small):Abs.Spec Tryz.prog 30 [] [.agg s.cells,.agg c.cells] [] (.tup [.agg (knownR s c).1.cells,.bool (knownR s c).2]):=by
 have c1:=ref25Form_spec c;have c2:=ref25Seat_spec s c.client (by have:=hs.seats;omega);have hlt:=seatL_lt c.client s.seats 0 (by omega);obtain ⟨E,hE⟩:=nmE (knownR s c);rw [<- hE];simp only [knownR] at hE;obtain ⟨fe,hfe⟩:=nmE (formE c);obtain ⟨i,hi⟩:=nmE (seatL c.client s.seats 0);rw [<- hfe] at c1 hE;rw [<- hi] at c2 hE hlt;clear hfe hi;simp only [CmdV.cells] at c1 |-;simp only [StateV.cells] at c2 |-;refine sgo 54 2 [.cell 4 52,.tmp 5] mixed Tryz.func30 ?_;simp only [go_sem,seval];(with_reducible and_intros)<;>first|exact .dq|omega|skip
 refine CallN.pure c1 ?_;clear c1
 by_cases b1:fe=0
 case neg =>
  have d:(fe==0)=false:=by simpa using b1
  rw [if_neg b1] at hE;rw [hE];simp only [go_sem,seval,bne,d]<;>simp [ReplyV.err]
 rw [if_pos b1] at hE;rw [b1];simp only [go_sem,seval];(with_reducible and_intros)<;>first|exact .dq|omega|skip
 refine CallN.pure c2 ?_;clear c2
 by_cases b2:0<=i
 case neg =>
  have d:decide (0<=i)=false:=by simpa using b2
  rw [if_neg b2] at hE;simp only [knownT,show IntKind.wrap .i64 (0+1)=1 from rfl] at hE;have hw1:IntKind.wrap .i64 1=1:=rfl;simp only [go_sem,seval,d,hw1];(with_reducible and_intros)<;>first|exact .dq|omega|skip
  by_cases b3:c.seq=1
  ·rw [if_pos b3,b3] at hE;have hE:E=(.err 0,false):=hE;rw [hE,b3];simp only [go_sem,seval]<;>simp [ReplyV.err]
  ·have d3:(c.seq==1)=false:=by simpa using b3
   rw [if_neg b3] at hE;rw [hE];simp only [go_sem,seval,bne,d3]<;>simp [ReplyV.err]
 obtain ⟨j,hj,hij⟩:=hlt b2;have hij:i=(j:Int):=by omega
 subst hij;have d:decide ((0:Int)<=(j:Int))=true:=by simp
 have hat:seatAt s (j:Int)=s.seats[j]:=by simp [seatAt,hj]
 rw [if_pos b2,hat] at hE;have hm:=map_at (c:=SeatV.cells) s.seats hj;have hfit:=hs.rs _ (List.getElem_mem hj);have hlj:(j:Int) < (s.seats.length:Int):=by omega
 obtain ⟨x,hx⟩:=nmE (s.seats[j]);rw [<- hx] at hE hm hfit;have cT:=twinReply_frozen x.r hfit;simp only [SeatV.cells] at hm;simp only [ReplyV.cells] at cT;simp only [go_sem,seval,d,lml,hm,Int.toNat_natCast];(with_reducible and_intros)<;>first|exact .dq|omega|skip
 by_cases b3:c.seq=x.seq
 ·have d3:(c.seq==x.seq)=true:=by simpa using b3
  rw [if_pos b3] at hE;rw [hE];simp only [go_sem,seval,d3,lml,hm,Int.toNat_natCast];(with_reducible and_intros)<;>first|exact .dq|omega|skip
  refine CallN.pure cT ?_;simp only [go_sem,seval]<;>simp
 have d3:(c.seq==x.seq)=false:=by simpa using b3
 rw [if_neg b3] at hE;simp only [go_sem,seval,d3];(with_reducible and_intros)<;>first|exact .dq|omega|skip
 by_cases b4:c.seq < x.seq
 ·have d4:decide (c.seq < x.seq)=true:=by simpa using b4
  rw [if_pos b4] at hE;rw [hE];simp only [go_sem,seval,d4]<;>simp [ReplyV.err]
 have d4:decide (c.seq < x.seq)=false:=by simpa using b4
 rw [if_neg b4] at hE;simp only [knownT] at hE;obtain ⟨v,hv⟩:=nmE (IntKind.wrap .i64 (x.seq+1));rw [<- hv] at hE;simp only [go_sem,seval,d4,<- hv];(with_reducible and_intros)<;>first|exact .dq|omega|skip
 by_cases b5:c.seq=v
 ·have d5:(c.seq==v)=true:=by simpa using b5
  rw [if_pos b5] at hE;simp only [go_sem,seval,bne,d5];(with_reducible and_intros)<;>first|exact .dq|omega|skip
  by_cases b6:1099511627776 < c.seq
  ·have d6:decide (1099511627776 < c.seq)=true:=by simpa using b6
   rw [if_pos b6] at hE;rw [hE];simp only [go_sem,seval,d6]<;>simp [ReplyV.err]
  ·have d6:decide (1099511627776 < c.seq)=false:=by simpa using b6
   rw [if_neg b6] at hE;rw [hE];simp only [go_sem,seval,d6]<;>simp [ReplyV.err]
 ·have d5:(c.seq==v)=false:=by simpa using b5
  rw [if_neg b5] at hE;rw [hE];simp only [go_sem,seval,bne,d5]<;>simp [ReplyV.err]
def p25E (s:StateV) (g:List LegV):Int:=postE s.led (nextId s.led) g
def p25S (s:StateV) (g:List LegV):StateV:=if p25E s g=0 then { s with led:=postL s.led (nextId s.led) g } else s
theorem ref25Post_spec (s:StateV) (g:List LegV) (hl:s.led.bs.length < 2 ^ 30) (hr:∀ b∈s.led.bs,b.rng) (hg:g.length < 2 ^ 29) :
  Abs.Spec Tryz.prog 102 [.box s.cells] [.addr 0 0,.sl 4 (g.map LegV.cells)] [.box (p25S s g).cells] (.int .i64 (p25E s g)):=by
 have c1:=ref8Post_spec s.led (nextId s.led) g hl hr hg;obtain ⟨S,hS⟩:=nmE (p25S s g);rw [<- hS];simp only [p25S] at hS;obtain ⟨e,he⟩:=nmE (p25E s g);rw [<- he] at hS |-;simp only [p25E] at he;rw [<- he] at c1;clear he;simp only [LedV.cells,nextId] at c1;simp only [nextId] at hS;simp only [StateV.cells];refine sgo 29 2 [.tmp 4] mixed Tryz.func102 ?_;simp only [go_sem,seval];(with_reducible and_intros)<;>first|exact .dq|omega|skip
 refine CallN.pure c1 ?_;simp only [go_sem,seval];(with_reducible and_intros)<;>first|exact .dq|omega|skip
 by_cases b1:e=0
 ·have d:(e==0)=true:=by simpa using b1
  rw [if_pos b1] at hS;rw [hS];simp only [go_sem,seval,d]
 ·have d:(e==0)=false:=by simpa using b1
  rw [if_neg b1] at hS;rw [hS];simp only [go_sem,seval,d]
structure StateV.good (s:StateV):Prop where
 small:s.small
 rng:s.rng
 ms:s.roll.ms.length < 2 ^ 27
 qs:s.book.qs.length < 2 ^ 20
 bids:s.bids.length < 2 ^ 20
 bs:s.led.bs.length < 2 ^ 29
 ps:s.ps.length < 2 ^ 28
theorem StateV.good.led {s:StateV} (h:s.good) {l:LedV} (hl:l.fine):({ s with led:=l }:StateV).good:=
 ⟨⟨h.small.roll,h.small.book,Nat.lt_trans hl.1 (by decide),h.small.ps,h.small.calls,h.small.bids,h.small.seats,h.small.rs⟩,
  ⟨h.rng.now,h.rng.day,h.rng.phase,h.rng.ms,h.rng.ns,h.rng.xs,h.rng.next,h.rng.ts,h.rng.qs,hl.2.2,hl.2.1,h.rng.ps,h.rng.calls,h.rng.bids,h.rng.seats⟩,h.ms,h.qs,h.bids,hl.1,h.ps⟩
theorem StateV.good.fine {s:StateV} (h:s.good):s.led.fine:=⟨h.bs,h.rng.bs,h.rng.last⟩
theorem p25S_good {s:StateV} (h:s.good) (g:List LegV):(p25S s g).good:=by
 unfold p25S;split
 ·exact h.led postL_led
 ·exact h
def meetS (s:StateV) (d:DueV):StateV:={ s with calls:=meetL s.calls d }
def payR (s:StateV) (c:CmdV):StateV × Int:=
 if AcctV.right ⟨2,c.who,c.cur⟩&&within c.amt 1 4611686018427387904 then
  (if actE s.roll c.who=0 then
   (if c.kind=8 then (p25S s (moveL ⟨1,0,c.cur⟩ ⟨3,c.who,c.cur⟩ c.amt),p25E s (moveL ⟨1,0,c.cur⟩ ⟨3,c.who,c.cur⟩ c.amt))
   else if c.kind=4 then
    (if p25E s (moveL ⟨1,0,c.cur⟩ ⟨2,c.who,c.cur⟩ c.amt)=0 then (meetS (p25S s (moveL ⟨1,0,c.cur⟩ ⟨2,c.who,c.cur⟩ c.amt)) ⟨c.who,c.cur,c.amt⟩,meetE s.calls ⟨c.who,c.cur,c.amt⟩)
    else (p25S s (moveL ⟨1,0,c.cur⟩ ⟨2,c.who,c.cur⟩ c.amt),p25E s (moveL ⟨1,0,c.cur⟩ ⟨2,c.who,c.cur⟩ c.amt)))
   else
    (p25S s (moveL ⟨2,c.who,c.cur⟩ ⟨1,0,c.cur⟩ c.amt),if p25E s (moveL ⟨2,c.who,c.cur⟩ ⟨1,0,c.cur⟩ c.amt)=0 then covE (p25S s (moveL ⟨2,c.who,c.cur⟩ ⟨1,0,c.cur⟩ c.amt)) c.who c.cur else p25E s (moveL ⟨2,c.who,c.cur⟩ ⟨1,0,c.cur⟩ c.amt)))
  else (s,actE s.roll c.who))
 else (s,3)
theorem ref25Pay_spec (s:StateV) (c:CmdV) (h:s.good):Abs.Spec Tryz.prog 97 [.box s.cells] [.addr 0 0,.agg c.cells] [.box (payR s c).1.cells] (.int .i64 (payR s c).2):=by
 have c1:=ref25Acct_spec 2 c.who c.cur;have c2:=ref25Acct_spec 1 0 c.cur;have c3:=ref25Acct_spec 3 c.who c.cur;have c4:=ref8Right_spec ⟨2,c.who,c.cur⟩;have c5:=within25_spec c.amt 1 4611686018427387904;have c6:=ref25Active_spec s c.who h.small.roll.small;have m8:=ref8Move_spec ⟨1,0,c.cur⟩ ⟨3,c.who,c.cur⟩ c.amt;have m4:=ref8Move_spec ⟨1,0,c.cur⟩ ⟨2,c.who,c.cur⟩ c.amt;have m5:=ref8Move_spec ⟨2,c.who,c.cur⟩ ⟨1,0,c.cur⟩ c.amt;have hgl:∀ a b n,(moveL a b n).length < 2 ^ 29:=fun _ _ _=>by simp [moveL]
 have p8:=ref25Post_spec s (moveL ⟨1,0,c.cur⟩ ⟨3,c.who,c.cur⟩ c.amt) h.small.led h.rng.bs (hgl _ _ _);have p4:=ref25Post_spec s (moveL ⟨1,0,c.cur⟩ ⟨2,c.who,c.cur⟩ c.amt) h.small.led h.rng.bs (hgl _ _ _);have p5:=ref25Post_spec s (moveL ⟨2,c.who,c.cur⟩ ⟨1,0,c.cur⟩ c.amt) h.small.led h.rng.bs (hgl _ _ _);have cM:=refMeet_spec s.calls ⟨c.who,c.cur,c.amt⟩ h.small.calls;have g5:=p25S_good h (moveL ⟨2,c.who,c.cur⟩ ⟨1,0,c.cur⟩ c.amt);have cC:=ref25Covered_spec (p25S s (moveL ⟨2,c.who,c.cur⟩ ⟨1,0,c.cur⟩ c.amt)) c.who c.cur g5.small g5.rng g5.bs (by have:=g5.ps;omega);have hcal:(p25S s (moveL ⟨1,0,c.cur⟩ ⟨2,c.who,c.cur⟩ c.amt)).calls=s.calls:=by unfold p25S;split<;>rfl
 clear g5 hgl;obtain ⟨R,hR⟩:=nmE (payR s c);rw [<- hR];simp only [payR] at hR;obtain ⟨L8,h8⟩:∃ L,L=moveL ⟨1,0,c.cur⟩ ⟨3,c.who,c.cur⟩ c.amt:=⟨_,rfl⟩
 obtain ⟨L4,h4⟩:∃ L,L=moveL ⟨1,0,c.cur⟩ ⟨2,c.who,c.cur⟩ c.amt:=⟨_,rfl⟩
 obtain ⟨L5,h5⟩:∃ L,L=moveL ⟨2,c.who,c.cur⟩ ⟨1,0,c.cur⟩ c.amt:=⟨_,rfl⟩
 rw [<- h8] at m8 p8 hR;rw [<- h4] at m4 p4 hR hcal;rw [<- h5] at m5 p5 cC hR;clear h8 h4 h5;obtain ⟨S8,s8⟩:∃ S,S=p25S s L8:=⟨_,rfl⟩
 obtain ⟨S4,s4⟩:∃ S,S=p25S s L4:=⟨_,rfl⟩
 obtain ⟨S5,s5⟩:∃ S,S=p25S s L5:=⟨_,rfl⟩
 obtain ⟨E8,e8⟩:∃ E,E=p25E s L8:=⟨_,rfl⟩
 obtain ⟨E4,e4⟩:∃ E,E=p25E s L4:=⟨_,rfl⟩
 obtain ⟨E5,e5⟩:∃ E,E=p25E s L5:=⟨_,rfl⟩
 rw [<- s8,<- e8] at p8;rw [<- s4,<- e4] at p4;rw [<- s5,<- e5] at p5;rw [<- s4] at hcal;rw [<- s5] at cC;rw [<- s8,<- s4,<- s5,<- e8,<- e4,<- e5] at hR;clear s8 s4 s5 e8 e4 e5;rw [<- hcal] at cM hR;simp only [meetS] at hR;obtain ⟨ML,hML⟩:∃ M,M=meetL S4.calls ⟨c.who,c.cur,c.amt⟩:=⟨_,rfl⟩
 obtain ⟨me,hme⟩:∃ M,M=meetE S4.calls ⟨c.who,c.cur,c.amt⟩:=⟨_,rfl⟩
 obtain ⟨ce,hce⟩:∃ M,M=covE S5 c.who c.cur:=⟨_,rfl⟩
 obtain ⟨ae,hae⟩:∃ M,M=actE s.roll c.who:=⟨_,rfl⟩
 rw [<- hML,<- hme] at cM;rw [<- hce] at cC;rw [<- hae] at c6;rw [<- hML,<- hme,<- hce,<- hae] at hR;clear hML hme hce hae hcal;simp only [AcctV.cells] at c4 m8 m4 m5;simp only [DueV.cells] at cM;simp only [StateV.cells] at c6 p8 p4 p5 cC |-;simp only [CmdV.cells];refine sgo 97 2 [.tmp 4] mixed Tryz.func97 ?_;simp only [go_sem,seval];(with_reducible and_intros)<;>first|exact .dq|omega|skip
 refine CallN.pure c1 ?_;simp only [go_sem,seval];(with_reducible and_intros)<;>first|exact .dq|omega|skip
 refine CallN.pure c2 ?_;simp only [go_sem,seval];(with_reducible and_intros)<;>first|exact .dq|omega|skip
 refine CallN.pure c4 ?_;cases b1:AcctV.right ⟨2,c.who,c.cur⟩
 ·rw [b1] at hR;have hR:R=(s,3):=hR;rw [hR];simp only [go_sem,seval]<;>simp
 rw [b1,Bool.true_and] at hR;simp only [go_sem,seval];(with_reducible and_intros)<;>first|exact .dq|omega|skip
 refine CallN.pure c5 ?_;cases b2:within c.amt 1 4611686018427387904
 ·rw [b2] at hR;have hR:R=(s,3):=hR;rw [hR];simp only [go_sem,seval]<;>simp
 rw [b2,if_pos rfl] at hR;simp only [go_sem,seval];(with_reducible and_intros)<;>first|exact .dq|omega|skip
 refine CallN.pure c6 ?_
 by_cases b3:ae=0
 case neg =>
  have d:(ae==0)=false:=by simpa using b3
  rw [if_neg b3] at hR;rw [hR];simp only [go_sem,seval,bne,d]<;>simp
 rw [if_pos b3] at hR;rw [b3];clear c1 c2 c4 c5 c6 b1 b2 b3;simp only [go_sem,seval];(with_reducible and_intros)<;>first|exact .dq|omega|skip
 by_cases k8:c.kind=8
 ·have d:(c.kind==8)=true:=by simpa using k8
  rw [if_pos k8] at hR;rw [hR];simp only [go_sem,seval,d];(with_reducible and_intros)<;>first|exact .dq|omega|skip
  refine CallN.pure c3 ?_;simp only [go_sem,seval];(with_reducible and_intros)<;>first|exact .dq|omega|skip
  refine CallN.pure m8 ?_;simp only [go_sem,seval];(with_reducible and_intros)<;>first|exact .dq|omega|skip
  refine CallN.gen [] [0] false (by simp) ?_;simp only [go_sem,seval];refine CallG.intro p8 ?_;simp only [go_sem,seval]
 have d8:(c.kind==8)=false:=by simpa using k8
 rw [if_neg k8] at hR;simp only [go_sem,seval,d8];(with_reducible and_intros)<;>first|exact .dq|omega|skip
 by_cases k4:c.kind=4
 ·have d:(c.kind==4)=true:=by simpa using k4
  rw [if_pos k4] at hR;simp only [go_sem,seval,d];(with_reducible and_intros)<;>first|exact .dq|omega|skip
  refine CallN.pure m4 ?_;simp only [go_sem,seval];(with_reducible and_intros)<;>first|exact .dq|omega|skip
  refine CallN.gen [] [0] false (by simp) ?_;simp only [go_sem,seval];refine CallG.intro p4 ?_;simp only [go_sem,seval];(with_reducible and_intros)<;>first|exact .dq|omega|skip
  by_cases q:E4=0
  ·have d:(E4==0)=true:=by simpa using q
   rw [if_pos q] at hR;rw [hR];simp only [go_sem,seval,d];(with_reducible and_intros)<;>first|exact .dq|omega|skip
   refine CallN.pure cM ?_;simp only [go_sem,seval];(with_reducible and_intros)<;>first|exact .dq|omega|skip
  ·have d:(E4==0)=false:=by simpa using q
   rw [if_neg q] at hR;rw [hR];simp only [go_sem,seval,d]
 have d4:(c.kind==4)=false:=by simpa using k4
 rw [if_neg k4] at hR;simp only [go_sem,seval,d4];(with_reducible and_intros)<;>first|exact .dq|omega|skip
 refine CallN.pure m5 ?_;simp only [go_sem,seval];(with_reducible and_intros)<;>first|exact .dq|omega|skip
 refine CallN.gen [] [0] false (by simp) ?_;simp only [go_sem,seval];refine CallG.intro p5 ?_;simp only [go_sem,seval];(with_reducible and_intros)<;>first|exact .dq|omega|skip
 by_cases q:E5=0
 ·have d:(E5==0)=true:=by simpa using q
  rw [if_pos q] at hR;rw [hR];simp only [go_sem,seval,d];(with_reducible and_intros)<;>first|exact .dq|omega|skip
  refine CallN.pure cC ?_;simp only [go_sem,seval]
 ·have d:(E5==0)=false:=by simpa using q
  rw [if_neg q] at hR;rw [hR];simp only [go_sem,seval,d]
theorem refChange_frozen (ps:List Plg) (w a u:Int) (hl:ps.length < 2 ^ 29):Abs.Spec Tryz.prog 227 [] [.sl 3 (pl ps),.int .i64 w,.int .i64 a,.int .i64 u] [] (.tup [.sl 3 (pl (changeL ps w a u)),.int .i64 (changeE ps w a u)]):=by
 refine Spec.frozen (refChange_spec ps w a u hl) [0] rfl ?_;intro r;rcases r with _ | r<;>rfl
def heldIs (r:RollV) (n:Int):Bool:=decide (0<=posL AssetV.a n r.xs)
def heldOf (r:RollV) (n:Int):AssetV:=getL AssetV.a n ⟨0,0,0,0⟩ r.xs
def pledN (c:CmdV):Int:=if c.kind=7 then -c.qty else c.qty
def pledR (s:StateV) (c:CmdV) (n:Int):StateV × Int:=
 if within c.qty 1 1099511627776 then
  (if memIs s.roll c.who&&heldIs s.roll c.no then
   (if (memOf s.roll c.who).state=1 then
    (if changeE s.ps c.who c.no n=0 then
     (if n < 0 then ({ s with ps:=changeL s.ps c.who c.no n },covE { s with ps:=changeL s.ps c.who c.no n } c.who (heldOf s.roll c.no).b)
     else if (heldOf s.roll c.no).E n=0 then ({ s with ps:=changeL s.ps c.who c.no n,calls:=meetL s.calls ⟨c.who,(heldOf s.roll c.no).b,(heldOf s.roll c.no).V n⟩ },meetE s.calls ⟨c.who,(heldOf s.roll c.no).b,(heldOf s.roll c.no).V n⟩)
     else ({ s with ps:=changeL s.ps c.who c.no n },(heldOf s.roll c.no).E n))
    else (s,changeE s.ps c.who c.no n))
   else (s,14))
  else (s,10))
 else (s,3)
theorem changeL_fine {ps:List Plg} {w a u:Int} (h:changeE ps w a u=0):Good (changeL ps w a u):=by
 obtain ⟨h1,h2,h3,h4,h5,h6⟩:=change_ok h;unfold changeL;rw [if_pos h];exact chg_good h2 h6 h1
theorem ok_rng {p:Plg} (h:p.ok):p.rng:=by
 obtain ⟨h1,h2,h3⟩:=h;have:=rightB_iff.1 h1;exact ⟨⟨by omega,by omega⟩,⟨by omega,by omega⟩,⟨by omega,by omega⟩⟩
theorem ref25Pledge_spec (s:StateV) (c:CmdV) (h:s.good):Abs.Spec Tryz.prog 98 [.box s.cells] [.addr 0 0,.agg c.cells] [.box (pledR s c (pledN c)).1.cells] (.int .i64 (pledR s c (pledN c)).2):=by
 have c1:=within25_spec c.qty 1 1099511627776;have c2:=refMemberFind_spec s.roll c.who h.small.roll.small;have c3:=refHeld_spec s.roll c.no h.small.roll.small;have e3:getL AssetV.a c.no ⟨0,0,0,0⟩ s.roll.xs=heldOf s.roll c.no:=rfl;have e4:decide (0<=posL AssetV.a c.no s.roll.xs)=heldIs s.roll c.no:=rfl;rw [e3,e4] at c3;have c5:=fun n=>refChange_frozen s.ps c.who c.no n (by have:=h.ps;omega)
 have cM:=fun d=>refMeet_spec s.calls d h.small.calls
 have cV:=fun n=>refValue_spec (heldOf s.roll c.no) n
 have cC:∀ n,changeE s.ps c.who c.no n=0->_:=fun n hn=>ref25Covered_spec { s with ps:=changeL s.ps c.who c.no n } c.who (heldOf s.roll c.no).b
  ⟨h.small.roll,h.small.book,h.small.led,by have:=chg_len c.who c.no (unitsL c.who c.no s.ps+n) s.ps;have:=h.ps;simp only [changeL,if_pos hn];omega,h.small.calls,h.small.bids,h.small.seats,h.small.rs⟩
  ⟨h.rng.now,h.rng.day,h.rng.phase,h.rng.ms,h.rng.ns,h.rng.xs,h.rng.next,h.rng.ts,h.rng.qs,h.rng.last,h.rng.bs,fun p hp=>ok_rng ((changeL_fine hn).1 p hp),h.rng.calls,h.rng.bids,h.rng.seats⟩
  h.bs (by have:=chg_len c.who c.no (unitsL c.who c.no s.ps+n) s.ps;have:=h.ps;simp only [changeL,if_pos hn];omega)
 obtain ⟨n,hn⟩:=nmE (pledN c);rw [<- hn];have c5:=c5 n;have cV:=cV n;have cC:=cC n;obtain ⟨R,hR⟩:=nmE (pledR s c n);rw [<- hR];simp only [pledR] at hR;obtain ⟨m,hm⟩:=nmE (memOf s.roll c.who);obtain ⟨a,ha⟩:=nmE (heldOf s.roll c.no);obtain ⟨mi,hmi⟩:∃ m,m=memIs s.roll c.who:=⟨_,rfl⟩
 obtain ⟨ai,hai⟩:∃ m,m=heldIs s.roll c.no:=⟨_,rfl⟩
 rw [<- hm,<- hmi] at c2;rw [<- ha,<- hai] at c3;rw [<- ha] at cV;simp only [<- ha] at cC;rw [<- hm,<- hmi,<- ha,<- hai] at hR;obtain ⟨qs,hqs⟩:∃ l,l=changeL s.ps c.who c.no n:=⟨_,rfl⟩
 obtain ⟨qe,hqe⟩:∃ l,l=changeE s.ps c.who c.no n:=⟨_,rfl⟩
 rw [<- hqs,<- hqe] at c5 hR;rw [<- hqs,<- hqe] at cC;obtain ⟨ce,hce⟩:∃ e,e=covE { s with ps:=qs } c.who a.b:=⟨_,rfl⟩
 rw [<- hce] at cC hR;clear hm ha hmi hai hqs hqe hce e3 e4;have cM:=cM ⟨c.who,a.b,a.V n⟩;simp only [RollV.cells] at c2 c3;simp only [AssetV.cells] at c3 cV;simp only [DueV.cells] at cM;obtain ⟨V,hV⟩:=nmE (a.V n);obtain ⟨ve,hve⟩:∃ V,V=a.E n:=⟨_,rfl⟩
 rw [<- hV] at cM;rw [<- hV,<- hve] at cV hR;obtain ⟨ML,hML⟩:∃ M,M=meetL s.calls ⟨c.who,a.b,V⟩:=⟨_,rfl⟩
 obtain ⟨me,hme⟩:∃ M,M=meetE s.calls ⟨c.who,a.b,V⟩:=⟨_,rfl⟩
 rw [<- hML,<- hme] at cM hR;clear hV hve hML hme;simp only [StateV.cells] at cC |-;simp only [CmdV.cells];refine sgo 109 2 [.tmp 4] mixed Tryz.func98 ?_;simp only [go_sem,seval];(with_reducible and_intros)<;>first|exact .dq|omega|skip
 refine CallN.pure c1 ?_;cases b1:within c.qty 1 1099511627776
 ·rw [b1] at hR;have hR:R=(s,3):=hR;rw [hR];simp only [go_sem,seval]<;>simp
 rw [b1,if_pos rfl] at hR;simp only [within,bae,decide_eq_true_eq] at b1;simp only [go_sem,seval];(with_reducible and_intros)<;>first|exact .dq|omega|skip
 refine CallN.pure c2 ?_;simp only [go_sem,seval];(with_reducible and_intros)<;>first|exact .dq|omega|skip
 refine CallN.pure c3 ?_;clear c1 c2 c3;cases b2:mi
 ·rw [b2] at hR;have hR:R=(s,10):=hR;rw [hR];simp only [go_sem,seval];(with_reducible and_intros)<;>first|exact .dq|omega|skip
 rw [b2,Bool.true_and] at hR;cases b3:ai
 ·rw [b3] at hR;have hR:R=(s,10):=hR;rw [hR];simp only [go_sem,seval];(with_reducible and_intros)<;>first|exact .dq|omega|skip
 rw [b3,if_pos rfl] at hR;simp only [go_sem,seval];(with_reducible and_intros)<;>first|exact .dq|omega|skip
 by_cases b4:m.state=1
 case neg =>
  have d:(m.state==1)=false:=by simpa using b4
  rw [if_neg b4] at hR;rw [hR];simp only [go_sem,seval,bne,d]<;>simp
 have d4:(m.state==1)=true:=by simpa using b4
 rw [if_pos b4] at hR;have hw:IntKind.wrap .i64 (0-c.qty) = -c.qty:=by rw [wr64 (by omega) (by omega)];omega
 simp only [go_sem,seval,bne,d4];(with_reducible and_intros)<;>first|exact .dq|omega|skip
 by_cases k7:c.kind=7
 ·have dk:(c.kind==7)=true:=by simpa using k7
  have hn:-c.qty=n:=by rw [hn];simp [pledN,k7]
  simp only [go_sem,seval,dk,hw,hn];(with_reducible and_intros)<;>first|exact .dq|omega|skip
  refine CallN.pure c5 ?_
  by_cases q:qe=0
  case neg =>
   have d:(qe==0)=false:=by simpa using q
   rw [if_neg q] at hR;rw [hR];simp only [go_sem,seval,bne,d]<;>simp
  rw [if_pos q] at hR;have cC:=cC q;rw [q];simp only [go_sem,seval];(with_reducible and_intros)<;>first|exact .dq|omega|skip
  have q2:n < 0:=by omega
  have d2:decide (n < 0)=true:=by simpa using q2
  rw [if_pos q2] at hR;rw [hR];simp only [go_sem,seval,d2];(with_reducible and_intros)<;>first|exact .dq|omega|skip
  refine CallN.pure cC ?_;simp only [go_sem,seval]
 ·have dk:(c.kind==7)=false:=by simpa using k7
  have hn:c.qty=n:=by rw [hn];simp [pledN,k7]
  simp only [go_sem,seval,dk,hw,hn];(with_reducible and_intros)<;>first|exact .dq|omega|skip
  refine CallN.pure c5 ?_
  by_cases q:qe=0
  case neg =>
   have d:(qe==0)=false:=by simpa using q
   rw [if_neg q] at hR;rw [hR];simp only [go_sem,seval,bne,d]<;>simp
  rw [if_pos q] at hR;have cC:=cC q;rw [q];simp only [go_sem,seval];(with_reducible and_intros)<;>first|exact .dq|omega|skip
  have q2:¬ n < 0:=by omega
  have d2:decide (n < 0)=false:=by simpa using q2
  rw [if_neg q2] at hR;simp only [go_sem,seval,d2];(with_reducible and_intros)<;>first|exact .dq|omega|skip
  refine CallN.pure cV ?_
  by_cases q3:ve=0
  case neg =>
   have d:(ve==0)=false:=by simpa using q3
   rw [if_neg q3] at hR;rw [hR];simp only [go_sem,seval,d]<;>simp
  rw [if_pos q3] at hR;rw [hR,q3];simp only [go_sem,seval];(with_reducible and_intros)<;>first|exact .dq|omega|skip
  refine CallN.pure cM ?_;simp only [go_sem,seval];(with_reducible and_intros)<;>first|exact .dq|omega|skip
def tradeOf (c:CmdV):TradeV:=⟨0,c.who,c.other,c.inst,c.qty,c.price,false⟩
def trdR (s:StateV) (c:CmdV):StateV × Int × Int:=
 if c.kind=10 then
  (if tradeE s.roll (tradeOf c)=0 then ({ s with book:=enterB s.book (tradeOf c) },enterN s.book (tradeOf c),enterE s.book (tradeOf c)) else (s,0,tradeE s.roll (tradeOf c)))
 else if c.kind=13 then ({ s with roll:=tellR s.roll c.inst c.price },0,tellE s.roll c.inst c.price)
 else if findL c.no s.book.ts < 0 then (s,0,10)
 else if actE s.roll (tradeAt c.no s.book.ts).buyer=0/\actE s.roll (tradeAt c.no s.book.ts).seller=0 then
  (if c.kind=11 then ({ s with book:=cancelB s.book c.no },0,cancelE s.book c.no)
  else ({ s with book:=correctB s.book c.no c.qty c.price },correctN s.book c.no c.qty c.price,correctE s.book c.no c.qty c.price))
 else (s,0,14)
theorem ref25Trades_spec (s:StateV) (c:CmdV) (h:s.good):Abs.Spec Tryz.prog 105 [.box s.cells] [.addr 0 0,.agg c.cells] [.box (trdR s c).1.cells] (.tup [.int .i64 (trdR s c).2.1,.int .i64 (trdR s c).2.2]):=by
 have c1:=refTrade_spec s.roll (tradeOf c) h.small.roll;have c2:=refEnter_spec s.book (tradeOf c) h.small.book h.rng.qs;have c3:=refTell_spec s.roll c.inst c.price h.small.roll;have c4:=refFind_spec s.book c.no h.small.book;have c5:=fun w=>ref25Active_spec s w h.small.roll.small
 have c6:=refCancel_spec s.book c.no h.small.book h.rng.qs;have c7:=refCorrect_spec s.book c.no c.qty c.price h.small.book h.rng.qs;have hfe:¬ findL c.no s.book.ts < 0->_:=fun hh=>findL_ex (n:=c.no) (ts:=s.book.ts) hh
 obtain ⟨R,hR⟩:=nmE (trdR s c);rw [<- hR];simp only [trdR] at hR;obtain ⟨te,hte⟩:∃ e,e=tradeE s.roll (tradeOf c):=⟨_,rfl⟩
 obtain ⟨eB,hB⟩:∃ e,e=enterB s.book (tradeOf c):=⟨_,rfl⟩
 obtain ⟨eN,hN⟩:∃ e,e=enterN s.book (tradeOf c):=⟨_,rfl⟩
 obtain ⟨eE,hE⟩:∃ e,e=enterE s.book (tradeOf c):=⟨_,rfl⟩
 rw [<- hte] at c1 hR;rw [<- hB,<- hN,<- hE] at c2 hR;simp only [tradeOf,TradeV.cells] at c1 c2;simp only [RollV.cells] at c1 c3;simp only [BookV.cells] at c2 c4 c6 c7;simp only [StateV.cells] at c5 |-;simp only [CmdV.cells];refine sgo 142 2 [.tmp 4,.tmp 5] mixed Tryz.func105 ?_;simp only [go_sem,seval];(with_reducible and_intros)<;>first|exact .dq|omega|skip
 by_cases k10:c.kind=10
 ·have dk:(c.kind==10)=true:=by simpa using k10
  rw [if_pos k10] at hR;simp only [go_sem,seval,dk];(with_reducible and_intros)<;>first|exact .dq|omega|skip
  refine CallN.pure c1 ?_
  by_cases q:te=0
  ·have d:(te==0)=true:=by simpa using q
   rw [if_pos q] at hR;rw [hR];simp only [go_sem,seval,d];(with_reducible and_intros)<;>first|exact .dq|omega|skip
   refine CallN.pure c2 ?_;simp only [go_sem,seval];(with_reducible and_intros)<;>first|exact .dq|omega|skip
  ·have d:(te==0)=false:=by simpa using q
   rw [if_neg q] at hR;rw [hR];simp only [go_sem,seval,d]
 have dk:(c.kind==10)=false:=by simpa using k10
 rw [if_neg k10] at hR;clear c1 c2;simp only [go_sem,seval,dk];(with_reducible and_intros)<;>first|exact .dq|omega|skip
 by_cases k13:c.kind=13
 ·have dk3:(c.kind==13)=true:=by simpa using k13
  rw [if_pos k13] at hR;rw [hR];simp only [go_sem,seval,dk3];(with_reducible and_intros)<;>first|exact .dq|omega|skip
  refine CallN.pure c3 ?_;simp only [go_sem,seval];(with_reducible and_intros)<;>first|exact .dq|omega|skip
 have dk3:(c.kind==13)=false:=by simpa using k13
 rw [if_neg k13] at hR;clear c3;simp only [go_sem,seval,dk3];(with_reducible and_intros)<;>first|exact .dq|omega|skip
 refine CallN.pure c4 ?_
 by_cases q:findL c.no s.book.ts < 0
 ·have d:decide (findL c.no s.book.ts < 0)=true:=by simpa using q
  rw [if_pos q] at hR;rw [hR];simp only [go_sem,seval,d]
 have d:decide (findL c.no s.book.ts < 0)=false:=by simpa using q
 rw [if_neg q] at hR;obtain ⟨i,hi,hie,_⟩:=hfe q;have hat:tradeAt c.no s.book.ts=s.book.ts[i]:=by simp [tradeAt,hie,hi]
 rw [hat] at hR;have hm:=map_at (c:=TradeV.cells) s.book.ts hi;have hli:(i:Int) < (s.book.ts.length:Int):=by omega
 obtain ⟨x,hx⟩:=nmE (s.book.ts[i]);rw [<- hx] at hR hm;have c5b:=c5 x.buyer;have c5s:=c5 x.seller;obtain ⟨be,hbe⟩:∃ e,e=actE s.roll x.buyer:=⟨_,rfl⟩
 obtain ⟨se,hse⟩:∃ e,e=actE s.roll x.seller:=⟨_,rfl⟩
 rw [<- hbe] at c5b hR;rw [<- hse] at c5s hR;rw [hie] at d |-;simp only [TradeV.cells] at hm;clear hfe c4 q c5 hbe hse hat hx;simp only [go_sem,seval,d,lml,hm,Int.toNat_natCast];(with_reducible and_intros)<;>first|exact .dq|omega|skip
 refine CallN.pure c5b ?_
 by_cases q1:be=0
 case neg =>
  have d1:(be==0)=false:=by simpa using q1
  rw [if_neg (fun h=>q1 h.1)] at hR;rw [hR];simp only [go_sem,seval,bne,d1]<;>simp
 rw [q1];simp only [go_sem,seval,lml,hm,Int.toNat_natCast];(with_reducible and_intros)<;>first|exact .dq|omega|skip
 refine CallN.pure c5s ?_
 by_cases q2:se=0
 case neg =>
  have d2:(se==0)=false:=by simpa using q2
  rw [if_neg (fun h=>q2 h.2)] at hR;rw [hR];simp only [go_sem,seval,bne,d2]<;>simp
 rw [if_pos ⟨q1,q2⟩] at hR;rw [q2];clear c5b c5s;simp only [go_sem,seval];(with_reducible and_intros)<;>first|exact .dq|omega|skip
 by_cases k11:c.kind=11
 ·have dk1:(c.kind==11)=true:=by simpa using k11
  rw [if_pos k11] at hR;rw [hR];simp only [go_sem,seval,dk1];(with_reducible and_intros)<;>first|exact .dq|omega|skip
  refine CallN.pure c6 ?_;simp only [go_sem,seval];(with_reducible and_intros)<;>first|exact .dq|omega|skip
 ·have dk1:(c.kind==11)=false:=by simpa using k11
  rw [if_neg k11] at hR;rw [hR];simp only [go_sem,seval,dk1];(with_reducible and_intros)<;>first|exact .dq|omega|skip
  refine CallN.pure c7 ?_;simp only [go_sem,seval];(with_reducible and_intros)<;>first|exact .dq|omega|skip
def refP (s:StateV) (c:Int):StateV × Int:=if refillE s.led s.roll c=0/\refillL s.led s.roll c≠[] then (p25S s (refillL s.led s.roll c),p25E s (refillL s.led s.roll c)) else (s,refillE s.led s.roll c)
def refG:Nat->Nat->StateV->List DueV->StateV × List DueV × Int
 | 0,_,s,ds=>(s,ds,0)
 | m+1,c,s,ds=>if (refP s c).2=0 then refG m (c+1) (refP s c).1 (ds++refillD s.led s.roll c) else ((refP s c).1,[],(refP s c).2)
theorem refP_good {s:StateV} (h:s.good) (c:Int):(refP s c).1.good:=by
 unfold refP;split
 ·exact p25S_good h _
 ·exact h
theorem refillD_len (l:LedV) (r:RollV) (c:Int):(refillD l r c).length<=r.ms.length:=by
 unfold refillD;split
 ·have:=fm_len (f:=rfDue l c) (m:=1) (fun m=>by unfold rfDue;split<;>simp) r.ms;simpa using this
 ·simp
theorem refillL_len (l:LedV) (r:RollV) (c:Int):(refillL l r c).length<=306:=by
 unfold refillL;split
 ·exact joinL_len _
 ·simp
theorem ref25Refill_own (s:StateV) (h:s.good):Abs.Spec Tryz.prog 112 [.box s.cells] [.addr 0 0] [.box (refG 3 0 s []).1.cells,.own 3 ((refG 3 0 s []).2.1.map DueV.cells)] (.tup [.ref 1,.int .i64 (refG 3 0 s []).2.2]):=by
 obtain ⟨R,hR⟩:=nmE (refG 3 0 s []);rw [<- hR];simp only [StateV.cells];refine sgo 44 1 [.tmp 2,.tmp 3] mixed Tryz.func112 ?_;simp only [go_sem,seval];(with_reducible and_intros)<;>first|exact .dq|omega|skip
 refine LoopK.walk (S:=StateV × List DueV) 3 [0] [] (fun i _=>[(5,.int .i64 i),(4,.ref 688)]) (fun i x=>[(0,.box x.1.cells),(688,.own 3 (x.2.map DueV.cells))])
  (fun i x=>refG (3-i) i x.1 x.2=R/\x.1.good/\x.2.length<=i*134217728) (s,[]) ⟨hR.symm,h,Nat.zero_le _⟩ ?_ ?_ ?_
 ·simp only [go_sem,seval]<;>simp
 ·intro c x hc hdc hwc hI;obtain ⟨t,ds⟩:=x;obtain ⟨hI,hg,hdl⟩:=hI;dsimp only at hI hg hdl |-;have hdc:decide ((c:Int) < 3)=true:=hdc;obtain ⟨m,hm⟩:∃ m,3-c=m+1:=⟨3-c-1,by omega⟩
  have hm2:3-(c+1)=m:=by omega
  rw [hm] at hI;simp only [refG] at hI;have c1:=refRefill_spec t.led t.roll c hg.small.led hg.rng.bs hg.small.roll hg.ms;have hll:=refillL_len t.led t.roll c;have hdd:=refillD_len t.led t.roll c;have hms:=hg.ms;have c2:=ref25Post_spec t (refillL t.led t.roll c) hg.small.led hg.rng.bs (by omega);have hpg:=refP_good hg c;obtain ⟨P,hP⟩:=nmE (refP t c);rw [<- hP] at hI hpg;simp only [refP] at hP;obtain ⟨g,hgd⟩:=nmE (refillL t.led t.roll c);obtain ⟨D1,hD1⟩:∃ g,g=refillD t.led t.roll c:=⟨_,rfl⟩
  obtain ⟨re,hre⟩:∃ g,g=refillE t.led t.roll c:=⟨_,rfl⟩
  rw [<- hgd] at c1 c2 hP hll;rw [<- hD1] at c1 hI hdd;rw [<- hre] at c1 hP;obtain ⟨PS,hPS⟩:∃ p,p=p25S t g:=⟨_,rfl⟩
  obtain ⟨PE,hPE⟩:∃ p,p=p25E t g:=⟨_,rfl⟩
  rw [<- hPS,<- hPE] at c2 hP;clear hgd hD1 hre hPS hPE;simp only [LedV.cells,RollV.cells] at c1;simp only [StateV.cells] at c2 |-;simp only [go_sem,seval,hdc];(with_reducible and_intros)<;>first|exact .dq|omega|skip
  refine CallN.pure c1 ?_
  by_cases q1:re=0
  case neg =>
   have d:(re==0)=false:=by simpa using q1
   rw [if_neg (fun h=>q1 h.1)] at hP;rw [hP] at hI;dsimp only at hI;rw [if_neg q1] at hI;rw [<- hI];simp only [go_sem,seval,bne,d]
   all_goals simp
  rw [q1] at hP |-
  by_cases q2:g=[]
  ·rw [if_neg (fun h=>h.2 q2)] at hP;rw [hP] at hI hpg;dsimp only at hI hpg;rw [if_pos rfl] at hI;rw [q2];simp only [go_sem,seval,List.map_nil,List.length_nil,lml,hwc];(with_reducible and_intros)<;>first|exact .dq|omega|skip
   refine RoundK.step (t,ds++D1) hc ⟨by rw [hm2];exact hI,hpg,by simp;omega⟩ ?_;simp only [go_sem,seval]<;>simp
  have hgp:decide ((0:Int) < (g.length:Int))=true:=by
   have:g.length≠0:=fun h=>q2 (List.eq_nil_of_length_eq_zero h)
   simp;omega
  rw [if_pos ⟨rfl,q2⟩] at hP;rw [hP] at hI hpg;dsimp only at hI hpg;simp only [go_sem,seval,lml,hgp];(with_reducible and_intros)<;>first|exact .dq|omega|skip
  refine CallN.gen [] [0] false (by simp) ?_;simp only [go_sem,seval];refine CallG.intro c2 ?_;simp only [go_sem,seval];(with_reducible and_intros)<;>first|exact .dq|omega|skip
  by_cases q3:PE=0
  ·have d:(PE==0)=true:=by simpa using q3
   rw [if_pos q3] at hI;simp only [go_sem,seval,bne,d,lml,hwc];(with_reducible and_intros)<;>first|exact .dq|omega|skip
   refine RoundK.step (PS,ds++D1) hc ⟨by rw [hm2];exact hI,hpg,by simp;omega⟩ ?_;simp only [go_sem,seval]<;>simp
  ·have d:(PE==0)=false:=by simpa using q3
   rw [if_neg q3] at hI;rw [<- hI];simp only [go_sem,seval,bne,d]
   all_goals simp
 intro x _ hI;obtain ⟨t,ds⟩:=x;have hI:=hI.1;have hI:(t,ds,(0:Int))=R:=hI;subst hI;simp only [StateV.cells];simp only [go_sem,seval]
theorem Spec.frozen1 {P:Program} {f:FuncId} {hs ds hs':List D} {d:D} (h:Abs.Spec P f hs ds hs' d) (k:Nat) (hk:hs.length<=k) {hs2:List D} {d2:D} (hn:hs'.getD k .undef≠.undef) (hd:(frzE k (mkE [(0,d)] (osL 0 hs'))).t 0=d2)
  (ho:∀ r,(frzE k (mkE [(0,d)] (osL 0 hs'))).o r=hs2.getD r .undef) (hu:∀ i,i < hs.length->hs'.getD i .undef=.undef->hs2.getD i .undef=.undef):Abs.Spec P f hs ds hs2 d2:=by
 refine ⟨h.1,?_⟩;intro w l0 G0 own0 S0 vs hl0 hG hsz hr hobj;refine (h.2 w l0 G0 own0 S0 vs hl0 hG hsz hr hobj).mono ?_
 rintro e w' ⟨v,rfl,o⟩
 refine ⟨v,rfl,o.os,o.tape,o.output,o.size,o.old,o.part,?_⟩;obtain ⟨lev,own,S,h1,h2,h3,h4,h5⟩:=o.rep
 have hi:Inv w l0 G0 S w' lev own S (mkE [(0,d)] (osL 0 hs')) (fun j=>if j=0 then v else Go.undef):=by
  refine ⟨o.os,o.tape,o.output,o.size,o.old,o.part,h1,h2,fun _ _ _=>rfl,?_,?_⟩
  ·intro s
   show RepV _ _ (Abs.look [(0,d)] s)
   by_cases hs:s=0
   ·subst hs;simpa [Abs.look] using h3
   ·simp only [Abs.look,if_neg hs];exact .undef _
  ·intro r
   show ObjAt _ _ _ _ _ _ r (Abs.look (osL 0 hs') r)
   rw [osL_look];simpa using h4 r
 have hi':=(Inv.frz hi k).resolve_right (fun hq=>hn (by
  have hq:Abs.look (osL 0 hs') k=.undef:=hq;rw [osL_look] at hq
  simpa using hq))
 refine ⟨_,own,setO S k none,hi'.priv,hi'.levOld,?_,?_,?_⟩
 ·have:=hi'.temps 0;rw [hd] at this;simpa using this
 ·intro r;have:=hi'.objs r
  rwa [ho] at this
 ·intro i hm hne;have:i≠k:=by omega
  simp only [setO,this,if_false];exact h5 i hm fun hh=>hne (hu i hm hh)
def bidR (s:StateV) (c:CmdV):StateV × Int:=
 if within c.qty 1 1048576&&within c.price 1 1073741824 then
  (if memIs s.roll c.who&&(memIs s.roll c.other&&instIs s.roll c.inst) then
   (if c.who=c.other then (s,16)
   else if (memOf s.roll c.who).state=2/\(memOf s.roll c.other).state=1 then
    (if 32<=s.bids.length then (s,9) else ({ s with bids:=s.bids++[⟨c.who,c.inst,c.other,c.qty,c.price⟩] },0))
   else (s,14))
  else (s,10))
 else (s,3)
@[reducible] def StateV.cellsB (s:StateV) (r:Nat):List D:=[.int .i64 s.now,.int .i64 s.day,.int .i64 s.phase,.sl 3 (s.roll.ms.map MemberV.cells),.sl 12 (s.roll.ns.map InstV.cells),.sl 4 (s.roll.xs.map AssetV.cells),.int .i64 s.book.next,.sl 7 (s.book.ts.map TradeV.cells),.sl 4 (s.book.qs.map PosV.cells),
 .int .i64 s.led.last,.sl 4 (s.led.bs.map BalV.cells),.sl 3 (pl s.ps),.sl 4 (s.calls.map CallV.cells),.ref r,.sl 7 (s.seats.map SeatV.cells)]
theorem ref25Bid_own (s:StateV) (c:CmdV) (h:s.good):Abs.Spec Tryz.prog 110 [.box (s.cellsB 1),.own 5 (s.bids.map BidV.cells)] [.addr 0 0,.agg c.cells] [.box ((bidR s c).1.cellsB 2),.undef,.own 5 ((bidR s c).1.bids.map BidV.cells)] (.int .i64 (bidR s c).2):=by
 have c1:=within25_spec c.qty 1 1048576;have c2:=within25_spec c.price 1 1073741824;have c3:=refMemberFind_spec s.roll c.who h.small.roll.small;have c4:=refMemberFind_spec s.roll c.other h.small.roll.small;have c5:=refFindInst_spec s.roll c.inst h.small.roll.small;have hbl:=h.bids;obtain ⟨R,hR⟩:=nmE (bidR s c);rw [<- hR];simp only [bidR] at hR;obtain ⟨m,hm⟩:=nmE (memOf s.roll c.who);obtain ⟨m2,hm2⟩:∃ m,m=memOf s.roll c.other:=⟨_,rfl⟩
 obtain ⟨mi,hmi⟩:∃ m,m=memIs s.roll c.who:=⟨_,rfl⟩
 obtain ⟨mi2,hmi2⟩:∃ m,m=memIs s.roll c.other:=⟨_,rfl⟩
 obtain ⟨ii,hii⟩:∃ m,m=instIs s.roll c.inst:=⟨_,rfl⟩
 obtain ⟨y,hy⟩:∃ m,m=instOf s.roll c.inst:=⟨_,rfl⟩
 rw [<- hm,<- hmi] at c3;rw [<- hm2,<- hmi2] at c4;rw [<- hii,<- hy] at c5;rw [<- hm,<- hm2,<- hmi,<- hmi2,<- hii] at hR;clear hm hm2 hmi hmi2 hii hy;simp only [RollV.cells] at c3 c4 c5;simp only [StateV.cellsB];simp only [CmdV.cells];refine sgo 101 2 [.tmp 4] mixed Tryz.func110 ?_;simp only [go_sem,seval];(with_reducible and_intros)<;>first|exact .dq|omega|skip
 refine CallN.pure c1 ?_;cases b1:within c.qty 1 1048576
 ·rw [b1] at hR;have hR:R=(s,3):=hR;rw [hR];simp only [go_sem,seval]<;>simp
 rw [b1,Bool.true_and] at hR;simp only [go_sem,seval];(with_reducible and_intros)<;>first|exact .dq|omega|skip
 refine CallN.pure c2 ?_;cases b2:within c.price 1 1073741824
 ·rw [b2] at hR;have hR:R=(s,3):=hR;rw [hR];simp only [go_sem,seval]<;>simp
 rw [b2,if_pos rfl] at hR;simp only [go_sem,seval];(with_reducible and_intros)<;>first|exact .dq|omega|skip
 refine CallN.pure c3 ?_;simp only [go_sem,seval];(with_reducible and_intros)<;>first|exact .dq|omega|skip
 refine CallN.pure c4 ?_;simp only [go_sem,seval];(with_reducible and_intros)<;>first|exact .dq|omega|skip
 refine CallN.pure c5 ?_;clear c1 c2 c3 c4 c5;cases b3:mi
 ·rw [b3] at hR;have hR:R=(s,10):=hR;rw [hR];simp only [go_sem,seval];(with_reducible and_intros)<;>first|exact .dq|omega|skip
 rw [b3,Bool.true_and] at hR;cases b4:mi2
 ·rw [b4] at hR;have hR:R=(s,10):=hR;rw [hR];simp only [go_sem,seval];(with_reducible and_intros)<;>first|exact .dq|omega|skip
 rw [b4,Bool.true_and] at hR;cases b5:ii
 ·rw [b5] at hR;have hR:R=(s,10):=hR;rw [hR];simp only [go_sem,seval];(with_reducible and_intros)<;>first|exact .dq|omega|skip
 rw [b5,if_pos rfl] at hR;simp only [go_sem,seval];(with_reducible and_intros)<;>first|exact .dq|omega|skip
 by_cases k1:c.who=c.other
 ·have d:(c.who==c.other)=true:=by simpa using k1
  rw [if_pos k1] at hR;rw [hR];simp only [go_sem,seval,d]<;>simp
 have d1:(c.who==c.other)=false:=by simpa using k1
 rw [if_neg k1] at hR;simp only [go_sem,seval,d1];(with_reducible and_intros)<;>first|exact .dq|omega|skip
 by_cases k2:m.state=2
 case neg =>
  have d:(m.state==2)=false:=by simpa using k2
  rw [if_neg (fun h=>k2 h.1)] at hR;rw [hR];simp only [go_sem,seval,bne,d]<;>simp
 have d2:(m.state==2)=true:=by simpa using k2
 simp only [go_sem,seval,bne,d2];(with_reducible and_intros)<;>first|exact .dq|omega|skip
 by_cases k3:m2.state=1
 case neg =>
  have d:(m2.state==1)=false:=by simpa using k3
  rw [if_neg (fun h=>k3 h.2)] at hR;rw [hR];simp only [go_sem,seval,d]<;>simp
 have d3:(m2.state==1)=true:=by simpa using k3
 rw [if_pos ⟨k2,k3⟩] at hR;simp only [go_sem,seval,d3,lml];(with_reducible and_intros)<;>first|exact .dq|omega|skip
 by_cases k4:32<=s.bids.length
 ·have d4:decide ((32:Int)<=(s.bids.length:Int))=true:=by simp;omega
  rw [if_pos k4] at hR;rw [hR];simp only [go_sem,seval,d4]<;>simp
 have d4:decide ((32:Int)<=(s.bids.length:Int))=false:=by simp;omega
 rw [if_neg k4] at hR;rw [hR];simp only [go_sem,seval,d4,lml];(with_reducible and_intros)<;>first|exact .dq|omega|skip
 all_goals simp
theorem ref25Bid_spec (s:StateV) (c:CmdV) (h:s.good):Abs.Spec Tryz.prog 110 [.box (s.cellsB 1),.own 5 (s.bids.map BidV.cells)] [.addr 0 0,.agg c.cells] [.box (bidR s c).1.cells,.undef] (.int .i64 (bidR s c).2):=by
 refine Spec.frozen1 (ref25Bid_own s c h) 2 (Nat.le_refl _) (by simp) rfl ?_ ?_
 ·intro r;rcases r with _ | _ | _ | r<;>rfl
 ·intro i hi hu;rcases i with _ | _ | i
  ·simp at hu
  ·rfl
  ·simp at hi;omega
theorem ref25Refill_spec (s:StateV) (h:s.good):Abs.Spec Tryz.prog 112 [.box s.cells] [.addr 0 0] [.box (refG 3 0 s []).1.cells] (.tup [.sl 3 ((refG 3 0 s []).2.1.map DueV.cells),.int .i64 (refG 3 0 s []).2.2]):=by
 refine Spec.frozen1 (ref25Refill_own s h) 1 (Nat.le_refl _) (by simp) rfl ?_ ?_
 ·intro r;rcases r with _ | _ | r<;>rfl
 ·intro i hi hu;rcases i with _ | i
  ·simp at hu
  ·simp at hi
theorem frz9b (n0 n1 n2 n3 n4:Int) (r0 r1 r2 r3 r4 r5 r6 r7 r8 r9:List (List D)):(frzEL [0,1,2,3,4,5,6,7,9] (mkE [(0,.agg [.int .i64 n0,.int .i64 n1,.int .i64 n2,.ref 0,.ref 1,.ref 2,.int .i64 n3,.ref 3,.ref 4,.int .i64 n4,.ref 5,.ref 6,.ref 7,.ref 8,.ref 9])] (osL 0 [.own 3 r0,.own 12 r1,.own 4 r2,.own 7 r3,.own 4 r4,.own 4 r5,.own 3 r6,.own 4 r7,.own 5 r8,.own 7 r9]))).t 0=.agg [.int .i64 n0,.int .i64 n1,.int .i64 n2,.sl 3 r0,.sl 12 r1,.sl 4 r2,.int .i64 n3,.sl 7 r3,.sl 4 r4,.int .i64 n4,.sl 4 r5,.sl 3 r6,.sl 4 r7,.ref 8,.sl 7 r9]:=by
 kernel_rfl
theorem frz9bo (d:D) (r0 r1 r2 r3 r4 r5 r6 r7 r8 r9:List (List D)) (r:Nat):(frzEL [0,1,2,3,4,5,6,7,9] (mkE [(0,d)] (osL 0 [.own 3 r0,.own 12 r1,.own 4 r2,.own 7 r3,.own 4 r4,.own 4 r5,.own 3 r6,.own 4 r7,.own 5 r8,.own 7 r9]))).o r=[D.undef,.undef,.undef,.undef,.undef,.undef,.undef,.undef,.own 5 r8].getD r .undef:=by
 rcases r with _ | _ | _ | _ | _ | _ | _ | _ | _ | _ | r<;>kernel_rfl
theorem twinState_B (s:StateV) (hs:s.small):Abs.Spec Tryz.prog 15 [] [.agg s.cells] [.undef,.undef,.undef,.undef,.undef,.undef,.undef,.undef,.own 5 (s.bids.map BidV.cells)] (.agg (s.cellsB 8)):=by
 have h:=twinState_spec s hs;simp only [stOwn,stRefs] at h;simp only [StateV.cellsB];simp only [StateV.cells] at h |-;exact Spec.frozen h [0,1,2,3,4,5,6,7,9] (frz9b ..) (fun r=>frz9bo ..)
end Go.Proofs.YtgnhdbdipfncgaaGreat
