/- Right states: what a command makes of a state, and what follows. No theorem of a claim. -/
import Derived.Test.YtgnhdbdipfncgaaGreatKI
import Derived.Test.YtgnhdbdipfncgaaGreatKJ
set_option linter.unusedSimpArgs false
set_option linter.unusedVariables false
set_option maxHeartbeats 4000000
set_option maxRecDepth 16000
namespace Go.Proofs.YtgnhdbdipfncgaaGreat
open Go.Abs
theorem doesM_cases (s:StateV) (c:CmdV) {P:StateV × Int × Int × Int × List DueV × List FallV->Prop}
  (a1:P ({ s with roll:=admitR s.roll c.who c.amt },admitE s.roll c.who c.amt,0,0,[],[]))
  (a2:P ({ s with roll:=listR s.roll (instC c) },listE s.roll (instC c),0,0,[],[]))
  (a3:P ({ s with roll:=holdR s.roll ⟨c.no,c.cur,c.price,c.amt⟩ },holdE s.roll ⟨c.no,c.cur,c.price,c.amt⟩,0,0,[],[]))
  (a4:P ((payR s c).1,(payR s c).2,0,0,[],[]))
  (a6:P ((pledR s c (pledN c)).1,(pledR s c (pledN c)).2,0,0,[],[]))
  (a9:P (p25S s (moveL ⟨1,0,c.cur⟩ ⟨4,0,c.cur⟩ c.amt),p25E s (moveL ⟨1,0,c.cur⟩ ⟨4,0,c.cur⟩ c.amt),0,0,[],[]))
  (a10:P ((trdR s c).1,(trdR s c).2.2,(trdR s c).2.1,0,[],[]))
  (a14:P (settleS s,settleE s,0,0,settleD s,[]))
  (a15:P (marginS s,marginE s,0,0,marginD s,[]))
  (a16:P (openS s,openE s,0,0,[],[]))
  (a17:P (tickS s c.amt,tickE s c.amt,0,0,tickD s c.amt,[]))
  (a18:P ((bidR s c).1,(bidR s c).2,0,0,[],[]))
  (a19:P (outS s c.who,outE s c.who,0,0,outD s c.who,outF s c.who))
  (a20:P ((refG 3 0 s []).1,(refG 3 0 s []).2.2,0,0,(refG 3 0 s []).2.1,[]))
  (a0:∀ e v,P (s,e,0,v,[],[])):P (doesM s c):=by
 unfold doesM
 by_cases k0:c.kind=1
 ·rw [if_pos k0];exact a1
 rw [if_neg k0]
 by_cases k1:c.kind=2
 ·rw [if_pos k1];exact a2
 rw [if_neg k1]
 by_cases k2:c.kind=3
 ·rw [if_pos k2];exact a3
 rw [if_neg k2]
 by_cases k3:c.kind=4\/c.kind=5\/c.kind=8
 ·rw [if_pos k3];exact a4
 rw [if_neg k3]
 by_cases k4:c.kind=6\/c.kind=7
 ·rw [if_pos k4];exact a6
 rw [if_neg k4]
 by_cases k5:c.kind=9
 ·rw [if_pos k5];split
  ·exact a9
  ·exact a0 _ _
 rw [if_neg k5]
 by_cases k6:c.kind=10\/c.kind=11\/c.kind=12\/c.kind=13
 ·rw [if_pos k6];split
  ·exact a10
  ·exact a0 _ _
 rw [if_neg k6]
 by_cases k7:c.kind=14
 ·rw [if_pos k7];exact a14
 rw [if_neg k7]
 by_cases k8:c.kind=15
 ·rw [if_pos k8];exact a15
 rw [if_neg k8]
 by_cases k9:c.kind=16
 ·rw [if_pos k9];exact a16
 rw [if_neg k9]
 by_cases k10:c.kind=17
 ·rw [if_pos k10];exact a17
 rw [if_neg k10]
 by_cases k11:c.kind=18
 ·rw [if_pos k11];exact a18
 rw [if_neg k11]
 by_cases k12:c.kind=19
 ·rw [if_pos k12];exact a19
 rw [if_neg k12]
 by_cases k13:c.kind=20
 ·rw [if_pos k13];exact a20
 rw [if_neg k13]
 by_cases k14:c.kind=21
 ·rw [if_pos k14];split
  ·exact a0 _ _
  ·exact a0 _ _
 rw [if_neg k14]
 by_cases k15:c.kind=22
 ·rw [if_pos k15];split
  ·exact a0 _ _
  ·exact a0 _ _
 rw [if_neg k15];exact a0 _ _
theorem doesM_right {s:StateV} {c:CmdV} (h:s.right) (he:(doesM s c).2.1=0):(doesM s c).1.right:=by
 revert he
 exact doesM_cases s c (P:=fun m=>m.2.1=0->m.1.right) (fun he=>right_roll h (admit_ok he)) (fun he=>right_roll h (list_ok he)) (fun he=>right_roll h (hold_ok he)) (fun _=>pay_right h c) (fun _=>pledge_right h c _) (fun _=>right_p25 h _) (fun he=>trade_right h c he)
  (fun he=>settle_right he) (fun he=>margin_right he) (fun he=>open_right he) (fun he=>tick_right he) (fun _=>bid_right h c) (fun he=>out_right he) (fun _=>refG_right 3 0 [] h) (fun _ _ _=>h)
theorem doesR_right {s:StateV} {c:CmdV} (h:s.right):(doesR s c).1.right:=by
 unfold doesR doesF;split
 ·rename_i he;exact doesM_right h he
 ·exact h
theorem keyed_len:∀ (l:List Int) (lo hi:Int),l.Pairwise (fun a c=>a < c)->(∀ x∈l,lo<=x/\x < hi)->lo<=hi->(l.length:Int)<=hi-lo
 | [],lo,hi,_,_,h=>by simp;omega
 | x :: r,lo,hi,hp,hx,hlh=>by
  rw [List.pairwise_cons] at hp;have hx0:=hx x (by simp);have:=keyed_len r (x+1) hi hp.2 (fun y hy=>by have:=hp.1 y hy;have:=hx y (by simp [hy]);omega) (by omega);simp only [List.length_cons];omega
theorem len_of {A:Type} {xs:List A} (f:A->Int) (lo hi:Int) {R:A->A->Prop} (hp:xs.Pairwise R) (hf:∀ a∈xs,∀ b∈xs,R a b->f a < f b) (hx:∀ x∈xs,lo<=f x/\f x < hi) (h:lo<=hi):(xs.length:Int)<=hi-lo:=by
 have h1:(xs.map f).Pairwise (fun a c=>a < c):=by
  rw [List.pairwise_map];exact List.Pairwise.imp_of_mem (fun {p q} hp hq hpq=>hf p hp q hq hpq) hp
 have:=keyed_len _ lo hi h1 (fun x hx'=>by
  obtain ⟨y,hy,rfl⟩:=List.mem_map.1 hx'
  exact hx y hy) h
 rwa [lml] at this
structure StateV.lens (s:StateV):Prop where
 ms:s.roll.ms.length<=16
 ns:s.roll.ns.length<=8
 xs:s.roll.xs.length<=6
 ts:s.book.ts.length<=128
 qs:s.book.qs.length<=128
 bs:s.led.bs.length<=1000
 ps:s.ps.length<=1000
 calls:s.calls.length<=1000
 bids:s.bids.length<=32
 seats:s.seats.length<=8
theorem StateV.right.lens {s:StateV} (h:s.right):s.lens:=by
 obtain ⟨⟨o1,p1⟩,⟨o2,p2⟩,⟨o3,p3⟩⟩:=roll_iff.1 h.roll;have hl:=led_ok_iff.1 h.led;have hg:=check_good.1 h.ps;have hc:=calls_iff.1 h.calls;have hs:=(chB_iff (lt:=seatLt) seatLt_tr).1 h.seats;refine ⟨?_,?_,?_,(book_iff.1 h.book).tl,book_short h.book,?_,?_,?_,h.bl,?_⟩
 ·have:=len_of MemberV.no 1 17 p1 (fun _ _ _ _ h=>h) (fun x hx=>by have:=memb_ok (o1 x hx);omega) (by decide);omega
 ·have:=len_of InstV.no 1 9 p2 (fun _ _ _ _ h=>h) (fun x hx=>by have:=inst_ok (o2 x hx);omega) (by decide);omega
 ·have:=len_of AssetV.a 1 7 p3 (fun _ _ _ _ h=>h) (fun x hx=>by have:=asset_ok (o3 x hx);omega) (by decide);omega
 ·have hr:=fun b hb=>right_rng (led_right h.led b hb)
  have:=len_of (fun b:BalV=>b.acct.kind*64+b.acct.who*3+b.acct.cur) 0 500 hl.2.1.2 (fun a ha b hb hab=>by
   have:=hr a ha;have:=hr b hb
   rw [less_iff] at hab;omega) (fun x hx=>by have:=hr x hx;omega) (by decide)
  omega
 ·have hr:∀ p∈s.ps,0<=p.key/\p.key < 500:=fun p hp=>by
   have:=rightB_iff.1 (hg.1 p hp).1;unfold Plg.key;omega
  have:=len_of Plg.key 0 500 hg.2 (fun _ _ _ _ h=>h) hr (by decide);omega
 ·have hr:=fun b hb=>call_ok.1 (hc.1 b hb)
  have:=len_of (fun b:CallV=>b.who*3+b.cur) 0 500 hc.2 (fun a ha b hb hab=>by
   have:=hr a ha;have:=hr b hb
   simp only [callLt,Bool.or_eq_true,bae,decide_eq_true_eq,beq_iff_eq] at hab;omega) (fun x hx=>by have:=hr x hx;omega) (by decide)
  omega
 ·have hr:∀ x∈s.seats,1<=x.client/\x.client<=8:=fun x hx=>by
   have:=hs.1 x hx;simp only [seatOk,within,bae,decide_eq_true_eq] at this;omega
  have:=len_of SeatV.client 1 9 hs.2 (fun a _ b _ hab=>by simpa [seatLt] using hab) (fun x hx=>by have:=hr x hx;omega) (by decide);omega
structure StateV.fine (s:StateV):Prop where
 right:s.right
 last:s.led.last<=1099511627776
 fit:∀ x∈s.seats,x.r.fits
theorem inR_rng {n:Int} (h:inR n=true):I64 n:=by
 rw [inR_iff] at h;exact ⟨by omega,by omega⟩
theorem StateV.right.rng {s:StateV} (h:s.right) (hla:s.led.last<=1099511627776) (hf:∀ x∈s.seats,x.r.fits):s.rng:=by
 obtain ⟨⟨o1,p1⟩,⟨o2,p2⟩,⟨o3,p3⟩⟩:=roll_iff.1 h.roll;have hb:=book_iff.1 h.book;have hl:=led_ok_iff.1 h.led;have hg:=check_good.1 h.ps;have hc:=calls_iff.1 h.calls;have hs:=(chB_iff (lt:=seatLt) seatLt_tr).1 h.seats;have hk:=h.clk;have n0:=hb.n0;have n1:=hb.n1;refine ⟨⟨by omega,by omega⟩,⟨by omega,by omega⟩,⟨by omega,by omega⟩,fun x hx=>?_,fun x hx=>?_,fun x hx=>?_,⟨by omega,by omega⟩,fun x hx=>?_,fun x hx=>?_,?_,fun x hx=>?_,fun x hx=>ok_rng (hg.1 x hx),fun x hx=>?_,fun x hx=>?_,fun x hx=>?_⟩
 ·have:=memb_ok (o1 x hx);exact ⟨⟨by omega,by omega⟩,⟨by omega,by omega⟩,⟨by omega,by omega⟩⟩
 ·have:=o2 x hx;simp only [InstV.ok,within,bae,decide_eq_true_eq] at this;have hsh:=fun j=>sh_range (o2 x hx) j
  have h0:=hsh 0;have h1:=hsh 1;have h2:=hsh 2;have h3:=hsh 3;have h4:=hsh 4;have h5:=hsh 5;simp only [InstV.sh] at h0 h1 h2 h3 h4 h5;exact ⟨⟨by omega,by omega⟩,⟨by omega,by omega⟩,⟨by omega,by omega⟩,⟨by omega,by omega⟩,⟨by omega,by omega⟩,⟨by omega,by omega⟩,⟨by omega,by omega⟩,⟨by omega,by omega⟩,⟨by omega,by omega⟩,⟨by omega,by omega⟩,⟨by omega,by omega⟩,⟨by omega,by omega⟩⟩
 ·have:=o3 x hx;simp only [AssetV.ok,within,bae,decide_eq_true_eq] at this;exact ⟨⟨by omega,by omega⟩,⟨by omega,by omega⟩,⟨by omega,by omega⟩,⟨by omega,by omega⟩⟩
 ·have:=hb.tok x hx;simp only [tradeOk,TradeV.okB,keyB,within,bae,Bool.not_eq_true',decide_eq_false_iff_not,decide_eq_true_eq] at this;exact ⟨⟨by omega,by omega⟩,⟨by omega,by omega⟩,⟨by omega,by omega⟩,⟨by omega,by omega⟩,⟨by omega,by omega⟩,⟨by omega,by omega⟩⟩
 ·have:=pos_ok.1 (hb.ok x hx);exact ⟨⟨by omega,by omega⟩,⟨by omega,by omega⟩,⟨by omega,by omega⟩,inR_rng this.2.2.2.1⟩
 ·exact ⟨by omega,by omega⟩
 ·have h1:=right_rng (led_right h.led x hx);have h2:=hl.2.1.1 x hx;simp only [balOk,bae] at h2;simp only [BalV.acct] at h1;exact ⟨⟨by omega,by omega⟩,⟨by omega,by omega⟩,⟨by omega,by omega⟩,inR_rng h2.2.1⟩
 ·have:=call_ok.1 (hc.1 x hx);exact ⟨⟨by omega,by omega⟩,⟨by omega,by omega⟩,⟨by omega,by omega⟩,⟨by omega,by omega⟩⟩
 ·have:=h.bids x hx;simp only [bidOk,keyB,within,bae,decide_eq_true_eq] at this;exact ⟨⟨by omega,by omega⟩,⟨by omega,by omega⟩,⟨by omega,by omega⟩,⟨by omega,by omega⟩,⟨by omega,by omega⟩⟩
 ·have:=hs.1 x hx;simp only [seatOk,within,bae,decide_eq_true_eq] at this;exact ⟨⟨by omega,by omega⟩,⟨by omega,by omega⟩,trivial,trivial,trivial,trivial,trivial,hf x hx⟩
theorem StateV.fine.good {s:StateV} (h:s.fine):s.good:=by
 have l:=h.right.lens;have h1:=l.ms;have h2:=l.ns;have h3:=l.xs;have h4:=l.ts;have h5:=l.qs;have h6:=l.bs;have h7:=l.ps;have h8:=l.calls;have h9:=l.bids;have h10:=l.seats;exact ⟨⟨⟨by omega,by omega,by omega⟩,⟨by omega,by omega⟩,by omega,by omega,by omega,by omega,by omega,h.fit⟩,h.right.rng h.last h.fit,by omega,by omega,by omega,by omega,by omega⟩
def LedV.lo (l:LedV):Prop:=l.last<=1099511627776
theorem postL_lo {l:LedV} {id:Int} {g:List LegV} (h:postE l id g=0):(postL l id g).lo:=by
 unfold postL;rw [if_pos h];exact (postE_ok h).2.1.2
theorem p25_lo {s:StateV} (g:List LegV) (h:s.led.lo):(p25S s g).led.lo:=by
 unfold p25S;split
 ·rename_i he;exact postL_lo he
 ·exact h
theorem postIf_lo {l:LedV} {g:List LegV} {e:Int} (h:l.lo) (h0:(postIf l g e).2=0):(postIf l g e).1.lo:=by
 unfold postIf at h0 |-;split
 ·rename_i hc;rw [if_pos hc] at h0;exact postL_lo h0
 ·exact h
theorem outG_lo {s:StateV} {w:Int}:∀ (m i:Nat) (l:LedV) (p:List DueV),l.lo->(outG s w m i l p).2.2=0->(outG s w m i l p).1.lo
 | 0,_,_,_,h,_=>h
 | m+1,i,l,p,h,he=>by
  simp only [outG] at he |-;split
  ·rename_i h0;rw [if_pos h0] at he;exact outG_lo m _ _ _ (postIf_lo h h0) he
  ·rename_i h0;rw [if_neg h0] at he;exact absurd he h0
theorem refP_lo {s:StateV} (h:s.led.lo) (c:Int):(refP s c).1.led.lo:=by
 unfold refP;split
 ·exact p25_lo _ h
 ·exact h
theorem refG_lo:∀ (m c:Nat) {s:StateV} (ds:List DueV),s.led.lo->(refG m c s ds).1.led.lo
 | 0,_,_,_,h=>h
 | m+1,c,s,ds,h=>by
  simp only [refG];split
  ·exact refG_lo m _ _ (refP_lo h _)
  ·exact refP_lo h _
theorem pay_lo {s:StateV} (h:s.led.lo) (c:CmdV):(payR s c).1.led.lo:=by
 unfold payR;split
 case isFalse=>exact h
 split
 case isFalse=>exact h
 split
 ·exact p25_lo _ h
 split
 ·split
  ·exact p25_lo (s:=s) _ h
  ·exact p25_lo _ h
 ·exact p25_lo _ h
theorem pledge_lo {s:StateV} (h:s.led.lo) (c:CmdV) (n:Int):(pledR s c n).1.led.lo:=by
 unfold pledR;split
 case isFalse=>exact h
 split
 case isFalse=>exact h
 split
 case isFalse=>exact h
 split
 case isFalse=>exact h
 split
 ·exact h
 split
 ·exact h
 ·exact h
theorem trade_lo {s:StateV} (h:s.led.lo) (c:CmdV):(trdR s c).1.led.lo:=by
 unfold trdR;split
 ·split<;>exact h
 split
 ·exact h
 split
 ·exact h
 split
 ·split<;>exact h
 ·exact h
theorem bid_lo {s:StateV} (h:s.led.lo) (c:CmdV):(bidR s c).1.led.lo:=by
 unfold bidR;split
 case isFalse=>exact h
 split
 case isFalse=>exact h
 split
 ·exact h
 split
 case isFalse=>exact h
 split<;>exact h
theorem settle_lo {s:StateV} (h:s.led.lo) (he:settleE s=0):(settleS s).led.lo:=by
 unfold settleS;rw [if_pos he];unfold settleE at he;split at he
 case isFalse=>cases he
 split at he
 case isFalse=>cases he
 split at he
 case isFalse hne=>exact absurd he hne
 split at he
 case isFalse hne=>exact absurd he hne
 exact postIf_lo (l:=s.led) h he
theorem margin_lo {s:StateV} (h:s.led.lo) (he:marginE s=0):(marginS s).led.lo:=by
 unfold marginS;rw [if_pos he];exact h
theorem open_lo {s:StateV} (h:s.led.lo) (he:openE s=0):(openS s).led.lo:=by
 unfold openS;rw [if_pos he];exact h
theorem tick_lo {s:StateV} {n:Int} (h:s.led.lo) (he:tickE s n=0):(tickS s n).led.lo:=by
 unfold tickS;rw [if_pos he];exact h
theorem out_lo {s:StateV} {w:Int} (h:s.led.lo) (he:outE s w=0):(outS s w).led.lo:=by
 unfold outS;rw [if_pos he];exact outG_lo 3 0 s.led [] h (outE_ok he).2.2.2
theorem doesM_lo {s:StateV} {c:CmdV} (h:s.led.lo) (he:(doesM s c).2.1=0):(doesM s c).1.led.lo:=by
 revert he
 exact doesM_cases s c (P:=fun m=>m.2.1=0->m.1.led.lo) (fun _=>h) (fun _=>h) (fun _=>h) (fun _=>pay_lo h c) (fun _=>pledge_lo h c _) (fun _=>p25_lo _ h) (fun _=>trade_lo h c)
  (fun he=>settle_lo h he) (fun he=>margin_lo h he) (fun he=>open_lo h he) (fun he=>tick_lo h he) (fun _=>bid_lo h c) (fun he=>out_lo h he) (fun _=>refG_lo 3 0 [] h) (fun _ _ _=>h)
theorem marIn_dl {s:StateV} {w:Int}:∀ (m c:Nat) (x:List CallV × List DueV),(marIn s w m c x).1.2.length<=x.2.length+m
 | 0,_,_=>Nat.le_refl _
 | m+1,c,x=>by
  simp only [marIn];split
  ·refine Nat.le_trans (marIn_dl m _ _) ?_;simp only [List.length_append];have:(paidIf w c (shN s w c)).length<=1:=by unfold paidIf;split<;>simp
   omega
  ·dsimp only;omega
theorem marOut_dl {s:StateV}:∀ (ws:List Int) (x:List CallV × List DueV),(marOut s ws x).1.2.length<=x.2.length+3*ws.length
 | [],_=>Nat.le_refl _
 | w :: r,x=>by
  have h1:=marIn_dl (s:=s) (w:=w) 3 0 x;simp only [marOut,List.length_cons];split
  ·have h2:=marOut_dl (s:=s) r (marIn s w 3 0 x).1;omega
  ·omega
theorem outG_dl {s:StateV} {w:Int}:∀ (m i:Nat) (l:LedV) (p:List DueV),(outG s w m i l p).2.1.length<=p.length+m
 | 0,_,_,_=>Nat.le_refl _
 | m+1,i,l,p=>by
  simp only [outG];split
  ·refine Nat.le_trans (outG_dl m _ _ _) ?_;simp only [List.length_append];have:(paidIf w i (outChg s w i).2.1).length<=1:=by unfold paidIf;split<;>simp
   omega
  ·dsimp only;omega
theorem refP_roll (s:StateV) (c:Int):(refP s c).1.roll=s.roll:=by
 unfold refP p25S;split
 ·split<;>rfl
 ·rfl
theorem refG_dl:∀ (m c:Nat) (s:StateV) (ds:List DueV),(refG m c s ds).2.1.length<=ds.length+m*s.roll.ms.length
 | 0,_,_,_=>by simp [refG]
 | m+1,c,s,ds=>by
  simp only [refG];split
  ·refine Nat.le_trans (refG_dl m _ _ _) ?_;rw [refP_roll];have:=refillD_len s.led s.roll c;simp only [List.length_append,Nat.succ_mul];omega
  ·simp
theorem settleD_len {s:StateV} (h:s.lens):(settleD s).length<=1000:=by
 have hq:=h.qs;unfold settleD settleN;split
 ·have:=(netR_ok (runD s.roll s.book)).2;have:(runD s.roll s.book).length<=s.book.qs.length:=by unfold runD;split<;>simp
  omega
 ·simp
theorem marginD_len {s:StateV} (h:s.lens):(marginD s).length<=1000:=by
 have hm:=h.ms;unfold marginD marR;split
 ·have h1:=marOut_dl (s:=s) (thoseL s.roll [1]) (s.calls,[]);have h2:(thoseL s.roll [1]).length<=s.roll.ms.length:=pick_len _ _ _;simp only [List.length_nil] at h1;omega
 ·simp
theorem tickD_len {s:StateV} (n:Int) (h:s.lens):(tickD s n).length<=1000:=by
 have hc:=h.calls;unfold tickD;split
 ·rw [lml];have:=lateA_len (s.now+n) s.calls;omega
 ·simp
theorem outD_len {s:StateV} (w:Int):(outD s w).length<=1000:=by
 unfold outD;split
 ·have:=outG_dl (s:=s) (w:=w) 3 0 s.led [];simp only [List.length_nil] at this;omega
 ·simp
theorem outF_len {s:StateV} (w:Int):(outF s w).length<=1000:=by
 unfold outF;split
 ·rw [tab_len];omega
 ·simp
theorem refillD_short {s:StateV} (h:s.lens):(refG 3 0 s []).2.1.length<=1000:=by
 have hm:=h.ms;have:=refG_dl 3 0 s [];simp only [List.length_nil] at this;omega
theorem doesM_len {s:StateV} {c:CmdV} (h:s.lens):(doesM s c).2.2.2.2.1.length<=1000/\(doesM s c).2.2.2.2.2.length<=1000:=by
 have z:([]:List DueV).length<=1000/\([]:List FallV).length<=1000:=⟨Nat.zero_le _,Nat.zero_le _⟩
 exact doesM_cases s c (P:=fun m=>m.2.2.2.2.1.length<=1000/\m.2.2.2.2.2.length<=1000) z z z z z z z ⟨settleD_len h,z.2⟩ ⟨marginD_len h,z.2⟩ z ⟨tickD_len _ h,z.2⟩ z ⟨outD_len _,outF_len _⟩ ⟨refillD_short h,z.2⟩ (fun _ _=>z)
theorem doesR_fits {s:StateV} {c:CmdV} (h:s.lens):(doesR s c).2.fits:=by
 have hl:=doesM_len (c:=c) h;unfold doesR doesF;split
 ·simp only [ReplyV.fits];omega
 ·simp [ReplyV.fits,ReplyV.err]
theorem doesR_fine {s:StateV} {c:CmdV} (h:s.fine):(doesR s c).1.right/\(doesR s c).1.led.lo:=by
 refine ⟨doesR_right h.right,?_⟩;unfold doesR doesF;split
 ·rename_i he;exact doesM_lo h.last he
 ·exact h.last
def seatP (s:StateV) (c:CmdV) (r:ReplyV) (i:Nat):List SeatV:=
 if (i:Int)+1=c.client then [⟨(i:Int)+1,c.seq,r⟩] else if 0<=seatL ((i:Int)+1) s.seats 0 then [seatAt s (seatL ((i:Int)+1) s.seats 0)] else []
def doR (s:StateV) (c:CmdV):StateV × ReplyV:=if (knownR s c).2 then (s,(knownR s c).1) else ({ (doesR s c).1 with seats:=frm (seatP s c (doesR s c).2) 8 },(doesR s c).2)
theorem seatL_ex (n:Int):∀ (l:List SeatV) (k:Int),0<=k->0<=seatL n l k->∃ (j:Nat) (h:j < l.length),seatL n l k=k+j/\l[j].client=n
 | [],k,_,h=>by simp [seatL] at h
 | x :: r,k,hk,h=>by
  simp only [seatL] at h |-;split
  ·rename_i hx;exact ⟨0,by simp,by simp,by simpa using hx⟩
  ·rename_i hx;rw [if_neg hx] at h;obtain ⟨j,h1,h2,h3⟩:=seatL_ex n r (k+1) (by omega) h;exact ⟨j+1,by simp;omega,by rw [h2];omega,by simpa using h3⟩
theorem seatAt_mem {s:StateV} {n:Int} (h:0<=seatL n s.seats 0):seatAt s (seatL n s.seats 0)∈s.seats/\(seatAt s (seatL n s.seats 0)).client=n:=by
 obtain ⟨j,hj,e,hc⟩:=seatL_ex n s.seats 0 (by omega) h;unfold seatAt;rw [e,Int.zero_add,Int.toNat_natCast,List.getD_eq_getElem?_getD,List.getElem?_eq_getElem hj];exact ⟨List.getElem_mem hj,hc⟩
theorem seat_ok {x:SeatV}:seatOk x=true ↔ (1<=x.client/\x.client<=8)/\1<=x.seq/\x.seq<=1099511627776:=by
 simp only [seatOk,within,bae,decide_eq_true_eq]
theorem formE_ok {c:CmdV} (h:formE c=0):(1<=c.kind/\c.kind<=22)/\1<=c.client/\c.client<=8:=by
 unfold formE at h;split at h
 case isFalse=>cases h
 rename_i h1;split at h
 case isFalse=>cases h
 split at h
 case isFalse=>cases h
 split at h
 case isFalse=>cases h
 rename_i h2;simp only [within,bae,decide_eq_true_eq] at h1 h2;exact ⟨h1,h2⟩
theorem knownT_seq {c:CmdV} {last:Int} (h:(knownT c last).2=false) (hl:0<=last/\last<=1099511627776):c.seq=last+1/\c.seq<=1099511627776:=by
 unfold knownT at h;split at h
 case isFalse=>cases h
 rename_i h1;split at h
 ·cases h
 rename_i h2;rw [wr64 (by omega) (by omega)] at h1;omega
theorem known_no {s:StateV} {c:CmdV} (hs:s.right) (h:(knownR s c).2=false):formE c=0/\1<=c.seq/\c.seq<=1099511627776:=by
 have hse:=(chB_iff (lt:=seatLt) seatLt_tr).1 hs.seats;unfold knownR at h;split at h
 case isFalse=>cases h
 rename_i h1;split at h
 ·rename_i h2;have hm:=seat_ok.1 (hse.1 _ (seatAt_mem h2).1);split at h
  ·cases h
  split at h
  ·cases h
  have:=knownT_seq h (by omega);exact ⟨h1,by omega,this.2⟩
 ·have:=knownT_seq h (by omega);exact ⟨h1,by omega,this.2⟩
theorem doesR_seats (s:StateV) (c:CmdV) (hs:s.fine):∀ i,i < 8->∀ x∈seatP s c (doesR s c).2 i,x.client=(i:Int)+1/\(x∈s.seats\/x=⟨c.client,c.seq,(doesR s c).2⟩):=by
 intro i hi x hx;unfold seatP at hx;split at hx
 ·rename_i h;obtain rfl:=List.mem_singleton.1 hx;exact ⟨rfl,.inr (by rw [h])⟩
 ·split at hx
  ·rename_i h;obtain rfl:=List.mem_singleton.1 hx;exact ⟨(seatAt_mem h).2,.inl (seatAt_mem h).1⟩
  ·cases hx
theorem doR_fine {s:StateV} {c:CmdV} (h:s.fine):(doR s c).1.fine:=by
 unfold doR;split
 ·exact h
 rename_i hk;obtain ⟨f,k1,k2⟩:=known_no h.right (by simpa using hk);obtain ⟨d1,d2⟩:=doesR_fine (c:=c) h;have hS:=doesR_seats s c h;have hse:=(chB_iff (lt:=seatLt) seatLt_tr).1 h.right.seats;have hfit:=doesR_fits (c:=c) h.right.lens;have hcl:=formE_ok f;refine ⟨⟨d1.clk,d1.roll,d1.book,d1.led,d1.ps,d1.calls,d1.known,d1.bl,d1.bids,(chB_iff (lt:=seatLt) seatLt_tr).2 ⟨fun x hx=>?_,?_⟩⟩,d2,fun x hx=>?_⟩
 ·obtain ⟨i,hi,hx⟩:=mem_frm.1 hx;rcases (hS i hi x hx).2 with hx | rfl
  ·exact hse.1 x hx
  ·rw [seat_ok];dsimp only;omega
 ·refine pw_frm (fun i hi=>pw_one ?_) fun i j hij hj x hx y hy=>?_
  ·unfold seatP;split;simp;split<;>simp
  ·have h1:=(hS i (by omega) x hx).1;have h2:=(hS j hj y hy).1;simp only [seatLt,decide_eq_true_eq];omega
 ·obtain ⟨i,hi,hx⟩:=mem_frm.1 hx;rcases (hS i hi x hx).2 with hx | rfl
  ·exact h.fit x hx
  ·exact hfit
theorem zero_fine:StateV.zero.fine:=⟨right_iff.1 rfl,by decide,fun x hx=>by cases hx⟩
theorem curL_zero {l:LedV} (h:l.okB=true) (c:Int):sumL (curL c l.bs)=0:=by
 have hl:=led_ok_iff.1 h
 by_cases hc:0<=c/\c<=2
 ·have h0:=(balL_iff.1 hl.2.2.1).2;have h1:=(balL_iff.1 hl.2.2.2.1).2;have h2:=(balL_iff.1 hl.2.2.2.2).2;rcases (by omega:c=0\/c=1\/c=2) with rfl | rfl | rfl
  ·exact h0
  ·exact h1
  ·exact h2
 ·have:curL c l.bs=[]:=by
   unfold curL;rw [List.map_eq_nil_iff,List.filter_eq_nil_iff];intro b hb;have:=right_rng (led_right h b hb);simp only [BalV.acct] at this;simp only [beq_iff_eq];omega
  rw [this];rfl
theorem monL_cons (c:Int) (ks:List Int) (b:BalV) (r:List BalV):sumL (monL c ks (b :: r))=(if (b.cur==c&&monB ks b.kind)=true then b.sum else 0)+sumL (monL c ks r):=by
 simp only [monL,List.filter_cons];split<;>simp [sumL]
theorem mon_nil (c:Int) (bs:List BalV):sumL (monL c [] bs)=sumL (curL c bs):=by
 induction bs with
 | nil=>rfl
 | cons b r ih =>
  rw [monL_cons,curL_cons,ih,inC_bal];congr 1;simp only [monB,List.length_nil,decide_true,Bool.true_or,Bool.and_true,beq_iff_eq]
theorem monB_one (k x:Int):monB [k] x=decide (x=k):=by
 simp only [monB,List.length_cons,List.length_nil,inK_one];rw [decide_eq_false (by omega),Bool.false_or]
theorem mon_six (c:Int):∀ (bs:List BalV),(∀ b∈bs,1<=b.kind/\b.kind<=6)->sumL (monL c [1] bs)+sumL (monL c [2] bs)+sumL (monL c [3] bs)+sumL (monL c [4] bs)+sumL (monL c [5] bs)+sumL (monL c [6] bs)=sumL (curL c bs)
 | [],_=>rfl
 | b :: r,h=>by
  have ih:=mon_six c r fun x hx=>h x (by simp [hx])
  have hk:=h b (by simp);rw [monL_cons,monL_cons,monL_cons,monL_cons,monL_cons,monL_cons,curL_cons,<- ih,inC_bal];simp only [monB_one,bae,beq_iff_eq,decide_eq_true_eq]
  by_cases hc:b.cur=c
  ·simp only [hc,true_and,if_true];rcases (by omega:b.kind=1\/b.kind=2\/b.kind=3\/b.kind=4\/b.kind=5\/b.kind=6) with e | e | e | e | e | e<;>rw [e]<;>simp<;>omega
  ·simp only [hc,false_and,if_false];omega
theorem mon_seven (c:Int):∀ (bs:List BalV),(∀ b∈bs,1<=b.kind/\b.kind<=6)->sumL (monL c [1,2,3,4,5,6,1] bs)=sumL (curL c bs)
 | [],_=>rfl
 | b :: r,h=>by
  have ih:=mon_seven c r fun x hx=>h x (by simp [hx])
  have hk:=h b (by simp);rw [monL_cons,curL_cons,ih,inC_bal];congr 1
  have:monB [1,2,3,4,5,6,1] b.kind=true:=by
   simp only [monB,inK,List.any_cons,List.any_nil,Bool.or_eq_true,beq_iff_eq];omega
  simp only [this,Bool.and_true,beq_iff_eq]
theorem led_kinds {l:LedV} (h:l.okB=true):∀ b∈l.bs,1<=b.kind/\b.kind<=6:=fun b hb=>by
 have:=right_rng (led_right h b hb);simp only [BalV.acct] at this;omega
def kSum (f:Nat->Int):Nat->Int
 | 0=>0
 | i+1=>kSum f i+f i
theorem wrap_add (a b:Int):IntKind.wrap .i64 (IntKind.wrap .i64 a+b)=IntKind.wrap .i64 (a+b):=by
 rw [IntKind.wrap_i64,IntKind.wrap_i64,IntKind.wrap_i64];omega
def varA (c:Int):AcctV:=⟨5,0,c⟩
theorem varA_in {c:Int} (h:0<=c/\c<=2):varA c∈allA:=by
 rw [allA_mem];unfold varA AcctV.right;rw [if_neg (by dsimp only;omega)];rfl
theorem var_of (c:Int):∀ {bs:List BalV},bs.Pairwise (fun x y=>x.acct.less y.acct=true)->sumL (varL c bs)=ofL (varA c) bs
 | [],_=>rfl
 | b :: r,h=>by
  rw [List.pairwise_cons] at h;have ih:=var_of c h.2;simp only [varL,List.filter_cons,ofL] at ih |-;have e:isVar c b=isB (varA c) b:=rfl;rw [e]
  by_cases hb:isB (varA c) b=true
  ·rw [if_pos hb,if_pos hb,List.map_cons,sumL,ih,ofL_none]
   ·omega
   ·intro x hx hxa;have:=h.1 x hx;rw [isB_iff.1 hb,hxa] at this;exact less_irr this
  ·rw [if_neg hb,if_neg hb,ih]
theorem balN_other {a x:AcctV} {n:Int} (h:x≠a) (r:List BalV):ofL a (balN x n++r)=ofL a r:=by
 unfold balN;split
 ·rfl
 ·simp only [List.cons_append,List.nil_append,ofL];rw [if_neg];intro hb;exact h (isB_iff.1 hb)
theorem ofL_pst {a:AcctV} (S:AcctV->Int):∀ {L:List AcctV},L.Pairwise (fun x y=>x.less y=true)->a∈L->ofL a (L.flatMap fun x=>balN x (S x))=S a
 | [],_,h=>by cases h
 | x :: r,hp,h=>by
  rw [List.pairwise_cons] at hp;rw [List.flatMap_cons]
  by_cases hx:x=a
  ·subst hx;unfold balN;split
   ·rename_i hz;have hz:S x=0:=by simpa using hz
    rw [hz,List.nil_append,ofL_none];intro b hb hba;obtain ⟨y,hy,hb⟩:=List.mem_flatMap.1 hb;split at hb
    ·cases hb
    ·obtain rfl:=List.mem_singleton.1 hb;have:y=x:=hba;have hl:=hp.1 y hy;rw [this] at hl;exact less_irr hl
   ·simp only [List.cons_append,List.nil_append,ofL];rw [if_pos (show isB x ⟨x.kind,x.who,x.cur,S x⟩=true from isB_iff.2 rfl)]
  ·rw [balN_other hx];rcases List.mem_cons.1 h with h | h
   ·exact absurd h.symm hx
   ·exact ofL_pst S hp.2 h
theorem post_of {l:LedV} {id:Int} {g:List LegV} {a:AcctV} (h:postE l id g=0) (ha:a∈allA):ofL a (postL l id g).bs=ofL a l.bs+sumL (legS a g):=by
 unfold postL;rw [if_pos h];exact ofL_pst (pstS l g) allA_pw ha
theorem legS_app (a:AcctV) (g k:List LegV):sumL (legS a (g++k))=sumL (legS a g)+sumL (legS a k):=by
 simp only [legS,pick,List.flatMap_append,sumL_append]
theorem legS_none {a:AcctV}:∀ {g:List LegV},(∀ x∈g,x.acct≠a)->sumL (legS a g)=0
 | [],_=>rfl
 | x :: r,h=>by
  rw [legS_cons,if_neg (h x (by simp)),legS_none fun y hy=>h y (by simp [hy])];rfl
theorem legS_join {a:AcctV} {g:List LegV} (ha:a∈allA) (h:joinE g=0):sumL (legS a (joinL g))=sumL (legS a g):=by
 unfold joinL;rw [if_pos h];unfold joinA
 have key:∀ {L:List AcctV},L.Pairwise (fun x y=>x.less y=true)->a∈L->sumL (legS a (L.flatMap fun x=>legN x (sumL (legS x g))))=sumL (legS a g):=by
  intro L
  induction L with
  | nil=>intro _ h;cases h
  | cons x r ih =>
   intro hp hm;rw [List.pairwise_cons] at hp;rw [List.flatMap_cons,legS_app]
   have hN:∀ y:AcctV,∀ z∈legN y (sumL (legS y g)),z.acct=y:=fun y z hz=>by
    unfold legN at hz;split at hz
    ·cases hz
    ·obtain rfl:=List.mem_singleton.1 hz;rfl
   by_cases hx:x=a
   ·subst hx
    rw [legS_none (g:=r.flatMap _) (fun z hz hza=>by
     obtain ⟨y,hy,hz⟩:=List.mem_flatMap.1 hz;have:=hN y z hz;have hl:=hp.1 y hy;rw [<- this,hza] at hl
     exact less_irr hl)]
    unfold legN;split
    ·rename_i hz;have hz:sumL (legS x g)=0:=by simpa using hz
     rw [hz];rfl
    ·rw [legS_cons,if_pos (show LegV.acct ⟨x.kind,x.who,x.cur,sumL (legS x g)⟩=x from rfl)];simp [legS,pick,sumL]
   ·rw [legS_none (g:=legN x _) (fun z hz hza=>hx (by rw [<- hN x z hz];exact hza))];rcases List.mem_cons.1 hm with h | h
    ·exact absurd h.symm hx
    ·rw [ih hp.2 h];omega
 exact key allA_pw ha
theorem moveL_leg {a x y:AcctV} {n:Int} (hn:inR n=true):sumL (legS a (moveL x y n))=(if x=a then -n else 0)+(if y=a then n else 0):=by
 unfold moveL;rw [hn,if_pos rfl,legS_cons,legS_cons]
 show (if x=a then -n else 0)+((if y=a then n else 0)+0)=_
 omega
theorem moveL_kind {x y:AcctV} {n:Int} {k:LegV} (h:k∈moveL x y n):k.acct=x\/k.acct=y:=by
 unfold moveL at h;simp only [List.mem_cons,List.not_mem_nil,or_false] at h;rcases h with rfl | rfl
 ·exact .inl rfl
 ·exact .inr rfl
theorem moveL_no {a x y:AcctV} {n:Int} (h1:x≠a) (h2:y≠a):sumL (legS a (moveL x y n))=0:=
 legS_none fun k hk=>by rcases moveL_kind hk with e | e<;>rw [e]<;>assumption
theorem tot_app {A:Type} (l m:List A) (F:A->Int):tot (l++m) F=tot l F+tot m F:=by
 simp only [tot,List.map_append,sumL_append]
theorem tot_flat {A B:Type} (f:A->List B) (F:B->Int) (L:List A):tot (L.flatMap f) F=tot L (fun a=>tot (f a) F):=by
 induction L with
 | nil=>rfl
 | cons x r ih=>rw [List.flatMap_cons,tot_app,ih];rfl
theorem tot_mul {A:Type} (L:List A) (F:A->Int) (m:Int):tot L (fun a=>m*F a)=m*tot L F:=by
 induction L with
 | nil=>simp [tot,sumL]
 | cons x r ih=>rw [tot_cons,tot_cons,ih,Int.mul_add]
def wc (m:Int->Int) (p:PosV):Int:=m p.inst*p.cost
theorem wc_adP (m:Int->Int) (b:BookV) (g:List PosV) (w n:Int):tot (adP b g w n) (wc m)=m n*adC b g w n:=by
 unfold adP;split
 ·rename_i h;simp only [bae,beq_iff_eq] at h;rw [h.2];simp [tot,sumL]
 ·simp [tot,sumL,wc]
theorem tot8 {n v:Int} {m:Int->Int} (h:1<=n/\n<=8):tot (List.range 8) (fun j=>if n=(j:Int)+1 then m ((j:Int)+1)*v else 0)=m n*v:=by
 rw [tot_one (range_pw 8) (x:=(n-1).toNat) (List.mem_range.2 (by omega))]
 ·rw [if_pos (by omega),show (((n-1).toNat:Nat):Int)+1=n by omega]
 ·intro a ha;rw [if_neg (by omega)]
theorem wc_one {m:Int->Int} {p:PosV} (h1:1<=p.who/\p.who<=16) (h2:1<=p.inst/\p.inst<=8):tot (List.range 16) (fun k=>tot (List.range 8) (fun j=>if p.who=(k:Int)+1 then (if p.inst=(j:Int)+1 then m ((j:Int)+1)*p.cost else 0) else 0))=wc m p:=by
 have e:∀ k∈List.range 16,tot (List.range 8) (fun j=>if p.who=(k:Int)+1 then (if p.inst=(j:Int)+1 then m ((j:Int)+1)*p.cost else 0) else 0)=if p.who=(k:Int)+1 then wc m p else 0:=fun k _=>by
  by_cases hw:p.who=(k:Int)+1
  ·simp only [if_pos hw];exact tot8 h2
  ·simp only [if_neg hw];exact tot_zero fun _ _=>rfl
 rw [tot_congr e,tot16 h1]
theorem wc_qs (m:Int->Int):∀ {qs:List PosV},(∀ p∈qs,(1<=p.who/\p.who<=16)/\1<=p.inst/\p.inst<=8)->qs.Pairwise (fun x y=>posLt x y=true)->tot (List.range 16) (fun k=>tot (List.range 8) (fun j=>m ((j:Int)+1)*(posOf ((k:Int)+1) ((j:Int)+1) qs).cost))=tot qs (wc m)
 | [],_,_=>by
  refine tot_zero fun a _=>tot_zero fun b _=>?_
  simp [posOf]
 | p :: r,h1,h2=>by
  rw [List.pairwise_cons] at h2;rw [tot_cons,<- wc_qs m (fun x hx=>h1 x (by simp [hx])) h2.2,<- wc_one (m:=m) (h1 p (by simp)).1 (h1 p (by simp)).2,<- tot_add];refine tot_congr fun k _=>?_
  rw [<- tot_add];refine tot_congr fun j _=>?_
  simp only [posOf]
  by_cases hw:p.who=(k:Int)+1
  ·rw [if_pos hw]
   by_cases hn:p.inst=(j:Int)+1
   ·rw [if_pos hn,if_pos (posIs_iff.2 ⟨hw,hn⟩)];rw [posOf_none (qs:=r)]
    ·simp
    ·intro x hx hk;have:=h2.1 x hx;simp only [posLt,keyL,Bool.or_eq_true,bae,decide_eq_true_eq,beq_iff_eq] at this;omega
   ·rw [if_neg hn,if_neg (fun h=>hn (posIs_iff.1 h).2)];omega
  ·rw [if_neg hw,if_neg (fun h=>hw (posIs_iff.1 h).1)];omega
theorem wc_g (m:Int->Int):∀ {g:List PosV},(∀ p∈g,(1<=p.who/\p.who<=16)/\1<=p.inst/\p.inst<=8)->tot (List.range 16) (fun k=>tot (List.range 8) (fun j=>m ((j:Int)+1)*sumL (pick (posIs ((k:Int)+1) ((j:Int)+1)) PosV.cost g)))=tot g (wc m)
 | [],_=>by
  refine tot_zero fun a _=>tot_zero fun b _=>?_
  simp [pick,sumL]
 | p :: r,h1=>by
  rw [tot_cons,<- wc_g m (fun x hx=>h1 x (by simp [hx])),<- wc_one (m:=m) (h1 p (by simp)).1 (h1 p (by simp)).2,<- tot_add];refine tot_congr fun k _=>?_
  rw [<- tot_add];refine tot_congr fun j _=>?_
  rw [pick_cons,Int.mul_add];congr 1
  by_cases hw:p.who=(k:Int)+1
  ·rw [if_pos hw]
   by_cases hn:p.inst=(j:Int)+1
   ·rw [if_pos (posIs_iff.2 ⟨hw,hn⟩),if_pos hn]
   ·rw [if_neg (fun h=>hn (posIs_iff.1 h).2),if_neg hn];simp
  ·rw [if_neg hw,if_neg (fun h=>hw (posIs_iff.1 h).1)];simp
theorem wc_adW (m:Int->Int) {b:BookV} {g:List PosV} (h:addE b g=0):tot (adW b g 16) (wc m)=tot b.qs (wc m)+tot g (wc m):=by
 obtain ⟨h1,_,_⟩:=addE_adOk h;have hb:=book_iff.1 (addE_ok h).1;unfold adW;rw [tot_flat,<- wc_qs m (fun p hp=>⟨(pos_ok.1 (hb.ok p hp)).1,(pos_ok.1 (hb.ok p hp)).2.1⟩) hb.pw,<- wc_g m (fun p hp=>pleg_ok (List.all_eq_true.1 h1 p hp)),<- tot_add];refine tot_congr fun k _=>?_
 unfold adN;rw [tot_flat,<- tot_add];refine tot_congr fun j _=>?_
 rw [wc_adP,<- Int.mul_add];rfl
theorem wc_legs (m:Int->Int) (t:TradeV) (b:Bool):tot (legsL t b) (wc m)=0:=by
 unfold legsL;split
 ·simp only [tot,List.map_cons,List.map_nil,sumL,wc,Int.neg_mul,Int.mul_neg];omega
 ·rfl
theorem wc_fleg (m:Int->Int) (w n:Int) (long:Bool) (f:List FillV):tot (f.flatMap (fleg w n long)) (wc m)=0:=by
 rw [tot_flat];refine tot_zero fun x _=>?_
 simp only [fleg,tot,List.map_cons,List.map_nil,sumL,wc,Int.mul_neg];omega
theorem wc_sellA (m:Int->Int) {b:BookV} {w n:Int} {long:Bool} {f:List FillV} (h:(sellA b w n long f).2=0):tot (sellA b w n long f).1.qs (wc m)=tot b.qs (wc m):=by
 unfold sellA at h |-;split
 case isFalse=>rfl
 rename_i he;rw [if_pos he] at h;dsimp only at h |-;rw [(addE_ok h).2]
 show tot (adW b (flegL w n long f) 16) (wc m)=_
 rw [wc_adW m h,show flegL w n long f=f.flatMap (fleg w n long) from by unfold flegL;rw [if_pos he],wc_fleg];omega
theorem wc_sellT (m:Int->Int) {b:BookV} {w n p rest:Int} {long:Bool} (h:(sellT b w n p long rest).2=0):tot (sellT b w n p long rest).1.qs (wc m)=tot b.qs (wc m):=by
 unfold sellT at h |-;split
 case isFalse=>rfl
 rename_i he;rw [if_pos he] at h;exact wc_sellA m h
theorem wc_posStep (m:Int->Int) {s:StateV} {b:BookV} {w n:Int} (h:(posStep s w b n).2=0):tot (posStep s w b n).1.qs (wc m)=tot b.qs (wc m):=by
 unfold posStep at h |-;split
 ·rfl
 rename_i hq;rw [if_neg hq] at h;generalize (posOf w n b.qs).qty=q at h |-;unfold sellR at h |-;split
 case isFalse=>rfl
 rename_i hp;rw [if_pos hp] at h;split
 case isFalse=>rfl
 rename_i hf;rw [if_pos hf] at h;split
 ·rename_i hc;rw [if_pos hc] at h;rw [wc_sellT m h,wc_sellA m hc.1]
 ·rename_i hc;rw [if_neg hc] at h;exact wc_sellA m h
theorem wc_posG (m:Int->Int) {s:StateV} {w:Int}:∀ (k i:Nat) {b:BookV},(posG s w k i b).2=0->tot (posG s w k i b).1.qs (wc m)=tot b.qs (wc m)
 | 0,_,_,_=>rfl
 | k+1,i,b,h=>by
  simp only [posG] at h |-;split
  ·rename_i h0;rw [if_pos h0] at h;rw [wc_posG m k (i+1) h,wc_posStep m h0]
  ·rename_i h0;rw [if_neg h0] at h;exact absurd h h0
def mR (r:RollV) (c:Int) (n:Int):Int:=if (instIs r n&&(instOf r n).cur==c)=true then (instOf r n).mult else 0
theorem papT_wc (r:RollV) (c:Int):papT r c=wc (mR r c):=by
 funext p
 unfold papT wc mR;split<;>simp
def paperP (s:StateV):Prop:=∀ c:Int,0<=c/\c<=2->ofL (varA c) s.led.bs+tot s.book.qs (wc (mR s.roll c))=0
theorem mR_ext {r r':RollV} (e:r.ext r') {n:Int} (hi:instIs r n=true) (c:Int):mR r' c n=mR r c n:=by
 unfold mR;rw [hi,e.inst n hi,(e.same n hi).1,(e.same n hi).2]
theorem wc_ext {r r':RollV} (e:r.ext r') {qs:List PosV} (hq:∀ p∈qs,instIs r p.inst=true) (c:Int):tot qs (wc (mR r' c))=tot qs (wc (mR r c)):=
 tot_congr fun p hp=>by unfold wc;rw [mR_ext e (hq p hp)]
theorem mR_ns {r r':RollV} (h:r'.ns=r.ns) (c:Int):mR r' c=mR r c:=by
 funext n
 unfold mR instIs instOf;rw [h]
theorem paper_roll {s:StateV} (h:s.right) (hp:paperP s) {r':RollV} (e:s.roll.ext r'):paperP { s with roll:=r' }:=fun c hc=>by
 dsimp only;rw [wc_ext e (fun p hp=>(h.known.qs p hp).2)];exact hp c hc
def noVar (g:List LegV):Prop:=∀ c:Int,0<=c/\c<=2->sumL (legS (varA c) g)=0
theorem noVar_kinds {g:List LegV} (h:∀ x∈g,x.kind≠5):noVar g:=fun c _=>legS_none fun x hx e=>h x hx (by
 have:=congrArg AcctV.kind e
 exact this)
theorem noVar_join {g:List LegV} (h:noVar g):noVar (joinL g):=fun c hc=>by
 by_cases he:joinE g=0
 ·rw [legS_join (varA_in hc) he];exact h c hc
 ·unfold joinL;rw [if_neg he];rfl
theorem noVar_app {g k:List LegV} (h1:noVar g) (h2:noVar k):noVar (g++k):=fun c hc=>by
 rw [legS_app,h1 c hc,h2 c hc];rfl
theorem noVar_move {x y:AcctV} {n:Int} (h1:x.kind≠5) (h2:y.kind≠5):noVar (moveL x y n):=fun c _ =>
 moveL_no (fun e=>h1 (congrArg AcctV.kind e)) (fun e=>h2 (congrArg AcctV.kind e))
theorem noVar_mv {k1 w1 c1 k2 w2 c2 n:Int} (h1:k1≠5) (h2:k2≠5):noVar (moveL ⟨k1,w1,c1⟩ ⟨k2,w2,c2⟩ n):=noVar_move h1 h2
theorem paper_p25 {s:StateV} (hp:paperP s) {g:List LegV} (hg:noVar g):paperP (p25S s g):=by
 unfold p25S;split
 ·rename_i he;intro c hc;dsimp only;rw [post_of he (varA_in hc),hg c hc,Int.add_zero];exact hp c hc
 ·exact hp
theorem paper_pay {s:StateV} (hp:paperP s) (c:CmdV):paperP (payR s c).1:=by
 unfold payR;split
 case isFalse=>exact hp
 split
 case isFalse=>exact hp
 split
 ·exact paper_p25 hp (noVar_mv (by decide) (by decide))
 split
 ·split
  ·exact paper_p25 (s:=s) hp (noVar_mv (by decide) (by decide))
  ·exact paper_p25 hp (noVar_mv (by decide) (by decide))
 ·exact paper_p25 hp (noVar_mv (by decide) (by decide))
theorem paper_pledge {s:StateV} (hp:paperP s) (c:CmdV) (n:Int):paperP (pledR s c n).1:=by
 unfold pledR;split
 case isFalse=>exact hp
 split
 case isFalse=>exact hp
 split
 case isFalse=>exact hp
 split
 case isFalse=>exact hp
 split
 ·exact hp
 split<;>exact hp
theorem rfLegs_no (l:LedV) (c:Int) (m:MemberV):noVar (rfLegs l c m):=by
 unfold rfLegs;split
 ·exact noVar_mv (by decide) (by decide)
 ·intro _ _;rfl
theorem refillL_no (l:LedV) (r:RollV) (c:Int):noVar (refillL l r c):=by
 unfold refillL;split
 ·refine noVar_join ?_
  have:∀ ms:List MemberV,noVar (ms.flatMap (rfLegs l c)):=fun ms=>by
   induction ms with
   | nil=>intro _ _;rfl
   | cons m t ih=>rw [List.flatMap_cons];exact noVar_app (rfLegs_no l c m) ih
  exact this _
 ·intro _ _;rfl
theorem paper_refP {s:StateV} (hp:paperP s) (c:Int):paperP (refP s c).1:=by
 unfold refP;split
 ·exact paper_p25 hp (refillL_no _ _ _)
 ·exact hp
theorem paper_refG:∀ (m c:Nat) {s:StateV} (ds:List DueV),paperP s->paperP (refG m c s ds).1
 | 0,_,_,_,h=>h
 | m+1,c,s,ds,h=>by
  simp only [refG];split
  ·exact paper_refG m _ _ (paper_refP h _)
  ·exact paper_refP h _
theorem wc_enter (m:Int->Int) {b:BookV} {t:TradeV} (he:enterE b t=0):tot (enterB b t).qs (wc m)=tot b.qs (wc m):=by
 unfold enterB;rw [if_pos he];dsimp only;rw [wc_adW m (enterE_ok he).2.2.2.2,wc_legs];omega
theorem wc_cancel (m:Int->Int) {b:BookV} {n:Int} (he:cancelE b n=0):tot (cancelB b n).qs (wc m)=tot b.qs (wc m):=by
 unfold cancelB;rw [if_pos he];dsimp only;rw [wc_adW m (cancelE_ok he).2.2,wc_legs];omega
theorem paper_trade {s:StateV} (h:s.right) (hp:paperP s) (c:CmdV) (he:(trdR s c).2.2=0):paperP (trdR s c).1:=by
 unfold trdR at he |-;split
 ·rename_i hk;rw [if_pos hk] at he;split
  ·rename_i ht;rw [if_pos ht] at he;intro x hx;dsimp only;rw [wc_enter _ he];exact hp x hx
  ·exact hp
 rename_i hk;rw [if_neg hk] at he;split
 ·rename_i hk;rw [if_pos hk] at he;exact paper_roll h hp (tell_ok he).2
 rename_i hk;rw [if_neg hk] at he;split
 ·exact hp
 rename_i hf;rw [if_neg hf] at he;split
 case isFalse=>exact hp
 rename_i ha;rw [if_pos ha] at he;split
 ·rename_i hk;rw [if_pos hk] at he;intro x hx;dsimp only;rw [wc_cancel _ he];exact hp x hx
 ·rename_i hk;rw [if_neg hk] at he;obtain ⟨e1,e2⟩:=correctE_ok he;intro x hx;dsimp only;unfold correctB;rw [if_pos e1,wc_enter _ e2,wc_cancel _ e1];exact hp x hx
theorem paper_bid {s:StateV} (hp:paperP s) (c:CmdV):paperP (bidR s c).1:=by
 unfold bidR;split
 case isFalse=>exact hp
 split
 case isFalse=>exact hp
 split
 ·exact hp
 split
 case isFalse=>exact hp
 split<;>exact hp
def curD (c:Int) (d:DueV):Int:=if d.cur=c then d.amt else 0
theorem scan_min {f:Bool} {last:DueV}:∀ (l:List DueV) (s:Bool × DueV),
  (∀ d∈l,(f||dueLt last d)=true->(scanL f last l s).1=true /\ ¬ dueLt d (scanL f last l s).2=true)/\(s.1=true->(scanL f last l s).1=true /\ ¬ dueLt s.2 (scanL f last l s).2=true)
 | [],s=>⟨fun d hd=>(by cases hd),fun h=>⟨h,by rw [dueLt_iff];simp only [scanL];omega⟩⟩
 | x :: r,s=>by
  simp only [scanL];obtain ⟨i1,i2⟩:=scan_min (f:=f) (last:=last) r (if nextB f last s x=true then (true,x) else s);constructor
  ·intro d hd hc;rcases List.mem_cons.1 hd with rfl | hd
   ·by_cases hb:nextB f last s d=true
    ·rw [if_pos hb] at i2 |-;exact i2 rfl
    ·rw [if_neg hb] at i2 |-;simp only [nextB,hc,Bool.true_and,Bool.or_eq_true,Bool.not_eq_true',not_or] at hb;have h1:s.1=true:=by simpa using hb.1
     obtain ⟨j1,j2⟩:=i2 h1;refine ⟨j1,fun h=>?_⟩;have h2:=hb.2;rw [dueLt_iff] at h j2 h2;omega
   ·exact i1 d hd hc
  ·intro hs
   by_cases hb:nextB f last s x=true
   ·rw [if_pos hb] at i2 |-;obtain ⟨j1,j2⟩:=i2 rfl;refine ⟨j1,fun h=>?_⟩;simp only [nextB,hs,Bool.not_true,Bool.false_or,bae] at hb;have h2:=hb.2;dsimp only at j2;rw [dueLt_iff] at h j2 h2;omega
   ·rw [if_neg hb] at i2 |-;exact i2 hs
theorem grs_tot (w c:Int) (l:List DueV):sumL (grsL w c l)=tot l (fun d=>if d.who=w/\d.cur=c then d.amt else 0):=by
 induction l with
 | nil=>rfl
 | cons d r ih =>
  unfold grsL at ih |-;rw [pick_cons,ih,tot_cons];congr 1;simp only [dueIs,bae,beq_iff_eq]
theorem netG_tot {c:Int} {l:List DueV} (hl:moneyB l=true):∀ (n:Nat) (f:Bool) (last:DueV) (out:List DueV),cntL f last l < n->(netG l n f last out).2=0->tot (netG l n f last out).1 (curD c)=tot out (curD c)+tot l (fun d=>if (f||dueLt last d)=true then curD c d else 0)
 | 0,_,_,_,h,_=>by omega
 | n+1,f,last,out,hn,h=>by
  obtain ⟨hm1,hm2⟩:=scan_min (f:=f) (last:=last) l (false,.zero);have hmem:=scanL_mem (f:=f) (last:=last) (l:=l) (s:=(false,.zero));simp only [netG] at h |-;obtain ⟨S,hS⟩:=nmE (scanL f last l (false,.zero));rw [<- hS] at h hm1 hmem |-;split
  ·rename_i hf;rw [if_pos hf] at h;split
   ·rename_i hg;rw [if_pos hg] at h
    obtain ⟨k1,k2⟩:S.2∈l/\(f||dueLt last S.2)=true:=by
     rcases hmem hf with e | e
     ·rw [e] at hf;cases hf
     ·exact e
    have hlt:=cntL_next k1 k2;rw [netG_tot hl n false S.2 _ (by omega) h,tot_app];have hgn:grossN S.2.who S.2.cur l=sumL (grsL S.2.who S.2.cur l):=by unfold grossN;rw [if_pos hg]
    have e1:tot (netP l S.2) (curD c)=tot l (fun d=>if d.who=S.2.who/\d.cur=S.2.cur then curD c d else 0):=by
     have e2:tot (netP l S.2) (curD c)=if S.2.cur=c then grossN S.2.who S.2.cur l else 0:=by
      unfold netP;split
      ·rename_i hz;have hz:grossN S.2.who S.2.cur l=0:=by simpa using hz
       rw [hz];split<;>rfl
      ·simp only [tot,List.map_cons,List.map_nil,sumL,curD];omega
     rw [e2,hgn,grs_tot]
     by_cases hc:S.2.cur=c
     ·rw [if_pos hc];refine tot_congr fun d _=>?_
      by_cases hd:d.who=S.2.who/\d.cur=S.2.cur
      ·rw [if_pos hd,if_pos hd];unfold curD;rw [if_pos (by rw [hd.2,hc])]
      ·rw [if_neg hd,if_neg hd]
     ·rw [if_neg hc,tot_zero];intro d _
      by_cases hd:d.who=S.2.who/\d.cur=S.2.cur
      ·rw [if_pos hd];unfold curD;rw [if_neg (by rw [hd.2];exact hc)]
      ·rw [if_neg hd]
    rw [e1,Int.add_assoc,<- tot_add];congr 1;refine tot_congr fun d hd=>?_
    by_cases hq:(f||dueLt last d)=true
    ·rw [if_pos hq];have hmn:=(hm1 d hd hq).2
     by_cases he:d.who=S.2.who/\d.cur=S.2.cur
     ·rw [if_pos he,if_neg]
      ·omega
      ·rw [Bool.false_or,dueLt_iff];omega
     ·rw [if_neg he,if_pos]
      ·omega
      ·rw [Bool.false_or,dueLt_iff];rw [dueLt_iff] at hmn;omega
    ·rw [if_neg hq]
     have hqf:f=false /\ ¬ dueLt last d=true:=by
      simp only [Bool.or_eq_true,not_or] at hq;exact ⟨by simpa using hq.1,hq.2⟩
     have k2:=k2;rw [hqf.1,Bool.false_or,dueLt_iff] at k2;have h2:=hqf.2;rw [dueLt_iff] at h2;rw [if_neg (by omega),if_neg (by rw [Bool.false_or,dueLt_iff];omega)];rfl
   ·rename_i hg;rw [if_neg hg] at h;exact absurd h hg
  ·rename_i hf
   have:tot l (fun d=>if (f||dueLt last d)=true then curD c d else 0)=0:=tot_zero fun d hd=>by
    rw [if_neg];intro hq;exact hf (hm1 d hd hq).1
   rw [this];dsimp only;omega
theorem net_tot {c:Int} {l:List DueV} (h:(netR l).2=0):tot (netR l).1 (curD c)=tot l (curD c):=by
 unfold netR at h |-;split
 ·rename_i hm;rw [if_pos hm] at h
  rw [netG_tot hm _ _ _ _ (by
   have:cntL true .zero l<=l.length:=List.countP_le_length
   omega) h]
  simp only [Bool.true_or,if_true];simp [tot,sumL]
 ·rename_i hm;rw [if_neg hm] at h;cases h
theorem nlegs_var (c:Int):∀ l:List DueV,sumL (legS (varA c) (nlegs l)) = -tot l (curD c)
 | []=>rfl
 | d :: r=>by
  have ih:=nlegs_var c r;unfold nlegs at ih |-;rw [List.flatMap_cons,legS_app,ih,tot_cons,legS_cons,legS_cons]
  have e1:¬ (LegV.acct ⟨2,d.who,d.cur,d.amt⟩=varA c):=by
   intro e;have:=congrArg AcctV.kind e;cases this
  rw [if_neg e1]
  have e2:(LegV.acct ⟨5,0,d.cur,-d.amt⟩=varA c) ↔ d.cur=c:=by
   simp [LegV.acct,varA]
  simp only [e2,curD,legS,pick,List.flatMap_nil,sumL];split<;>omega
theorem nlegL_var {c:Int} (hc:0<=c/\c<=2) {l:List DueV} (h:nlegE l=0):sumL (legS (varA c) (nlegL l)) = -tot l (curD c):=by
 unfold nlegL;rw [if_pos h];unfold nlegE at h;split at h
 case isFalse=>cases h
 split at h
 case isFalse hne=>exact absurd h hne
 rename_i hn;rw [legS_join (varA_in hc) h,nlegs_var,net_tot hn]
theorem postIf_of {l:LedV} {g:List LegV} {e:Int} {a:AcctV} (ha:a∈allA) (h0:(postIf l g e).2=0):e=0/\ofL a (postIf l g e).1.bs=ofL a l.bs+sumL (legS a g):=by
 unfold postIf at h0 |-;split
 ·rename_i hc;rw [if_pos hc] at h0;exact ⟨hc.1,post_of h0 ha⟩
 ·rename_i hc;rw [if_neg hc] at h0;have h0:e=0:=h0
  have hg:g=[]:=by
   by_cases hg:g=[]
   ·exact hg
   ·exact absurd ⟨h0,hg⟩ hc
  rw [hg];exact ⟨h0,by simp [legS,pick,sumL]⟩
theorem paper_settle {s:StateV} (hp:paperP s) (he:settleE s=0):paperP (settleS s):=by
 unfold settleS;rw [if_pos he];unfold settleE at he;split at he
 case isFalse=>cases he
 rename_i h1;split at he
 case isFalse=>cases he
 split at he
 case isFalse hne=>exact absurd he hne
 rename_i h3;split at he
 case isFalse hne=>exact absurd he hne
 rename_i h4;have hr:=right_iff.1 h1;have h5:=(runE_ok h3).2.2;intro c hc;dsimp only;obtain ⟨p1,p2⟩:=postIf_of (varA_in hc) (show (postIf s.led (nlegL (settleN s)) (nlegE (settleN s))).2=0 from he)
 have e1:ofL (varA c) (settleP s).1.bs=ofL (varA c) s.led.bs + -tot (runD s.roll s.book) (curD c):=by
  show ofL (varA c) (postIf s.led (nlegL (settleN s)) (nlegE (settleN s))).1.bs=_
  rw [p2,nlegL_var hc p1];congr 2;exact net_tot h4
 have e2:∀ r2:RollV,(∀ n,instIs s.roll n=true->mR r2 c n=mR s.roll c n)->tot (runB s.roll s.book).qs (wc (mR r2 c))=tot s.book.qs (fun p=>mR s.roll c p.inst*(p.qty*priceOf (instOf s.roll p.inst))):=fun r2 hm=>by
  unfold runB;rw [if_pos h3];dsimp only;rw [tot_flat];refine tot_congr fun p hpm=>?_
  have hi:=(runE1_ok (h5 p hpm)).1;unfold runQ1;split
  ·rename_i hz;simp only [bae,beq_iff_eq] at hz;rw [hz.2];simp [tot,sumL]
  ·simp only [tot,List.map_cons,List.map_nil,sumL,wc];rw [hm _ hi];omega
 have e3:tot (runD s.roll s.book) (curD c)=tot s.book.qs (fun p=>mR s.roll c p.inst*(p.qty*priceOf (instOf s.roll p.inst)) + -(wc (mR s.roll c) p)):=by
  unfold runD;rw [if_pos h3];unfold tot;rw [List.map_map];refine tot_congr (L:=s.book.qs) fun p hpm=>?_
  have hi:=(runE1_ok (h5 p hpm)).1
  show curD c (runD1 s.roll p)=_
  unfold curD runD1 mR wc worthS;simp only [mR,hi,Bool.true_and,beq_iff_eq]
  by_cases hcc:(instOf s.roll p.inst).cur=c
  ·simp only [if_pos hcc];generalize (instOf s.roll p.inst).mult=m;generalize priceOf (instOf s.roll p.inst)=pr;have e:p.qty*(pr*m)=m*(p.qty*pr):=by rw [<- Int.mul_assoc,Int.mul_comm]
   have e':-p.cost*m = -(m*p.cost):=by rw [Int.neg_mul,Int.mul_comm]
   rw [e,e']
  ·simp only [if_neg hcc];simp
 rw [e1,e3,e2 _ (fun n hn=>mR_ext (turnR_ok hr.roll).2 hn c),tot_add]
 have e4:tot s.book.qs (fun p=>-(wc (mR s.roll c) p)) = -tot s.book.qs (wc (mR s.roll c)):=by
  have:=tot_mul s.book.qs (wc (mR s.roll c)) (-1);rw [show (fun p=>-(wc (mR s.roll c) p))=(fun p=>-1*wc (mR s.roll c) p) from funext fun p=>by omega,this];omega
 rw [e4];have:=hp c hc;omega
theorem tickF_ns:∀ (l:List CallV) (x:RollV × List CallV),(∀ c∈l,stOf x.1 c.who≠0)->x.1.okB=true->(tickF l x).1.ns=x.1.ns
 | [],_,_,_=>rfl
 | c :: r,x,h1,h2=>by
  have h:=putE_zero h2 (h1 c (by simp)) (p:=2) (by omega);obtain ⟨p1,p2,p3,_⟩:=put_ok h;simp only [tickF]
  rw [tickF_ns r _ (fun y hy=>by
   dsimp only;rw [p2];split
   ·decide
   ·exact h1 y (by simp [hy])) p1,p3]
theorem paper_tick {s:StateV} {n:Int} (hp:paperP s) (he:tickE s n=0):paperP (tickS s n):=by
 unfold tickS;rw [if_pos he];unfold tickE at he;split at he
 case isFalse=>cases he
 rename_i h1;have hr:=right_iff.1 h1
 have hns:=tickF_ns (lateA (s.now+n) s.calls) (s.roll,s.calls) (fun c hc=>by
  obtain ⟨x,hx,hc⟩:=List.mem_flatMap.1 hc;split at hc
  ·obtain rfl:=List.mem_singleton.1 hc;have:=hr.known.cs _ hx;dsimp only;omega
  ·cases hc) hr.roll
 intro c hc;dsimp only;rw [mR_ns hns];exact hp c hc
theorem born_no {k c n all:Int} {ws gs:List Int} (hk:k≠5):noVar (bornL k c n all ws gs):=by
 unfold bornL;split
 ·refine noVar_join (noVar_kinds fun x hx=>?_);unfold bornG at hx;rcases List.mem_cons.1 hx with rfl | hx
  ·show (6:Int)≠5
   decide
  ·obtain ⟨i,_,hx⟩:=mem_frm.1 hx;unfold bornP at hx;obtain rfl:=List.mem_singleton.1 hx;exact hk
 ·intro _ _;rfl
theorem levy_no (l:LedV) (c n:Int) (ws:List Int):noVar (levyL l c n ws):=by
 unfold levyL;split
 ·exact born_no (by decide)
 ·intro _ _;rfl
theorem assess_no (r:RollV) (c n:Int) (ws:List Int):noVar (assessL r c n ws):=by
 unfold assessL;split
 ·exact born_no (by decide)
 ·intro _ _;rfl
theorem chg_var {s:StateV} {w:Int} {i:Nat} {gain:Int} {f:FallV} {a b:Int} {c:Int} (hc:0<=c/\c<=2) (hg:inR gain=true) (h:(chargeR s w i gain f a b).2.2=0):sumL (legS (varA c) (chargeR s w i gain f a b).1)=if (i:Int)=c then -gain else 0:=by
 unfold chargeR at h |-;split
 case isFalse hne=>rw [if_neg hne] at h;exact absurd h hne
 rename_i h1;rw [if_pos h1] at h;split
 case isFalse hne=>rw [if_neg hne] at h;exact absurd h hne
 rename_i h2;rw [if_pos h2] at h;split
 case isFalse hne=>rw [if_neg hne] at h;cases h
 rename_i h3;rw [if_pos h3] at h;dsimp only at h |-;rw [legS_join (varA_in hc) h];unfold chgB chgA;have hv:∀ (k1 w1 k2 w2 n:Int),k1≠5->k2≠5->sumL (legS (varA c) (moveL ⟨k1,w1,i⟩ ⟨k2,w2,i⟩ n))=0:=fun k1 w1 k2 w2 n h1 h2=>noVar_mv h1 h2 c hc
 simp only [legS_app];rw [hv 1 0 2 w _ (by decide) (by decide),hv 6 0 2 w _ (by decide) (by decide),hv 2 w 6 0 _ (by decide) (by decide),hv 3 w 6 0 _ (by decide) (by decide),hv 4 0 6 0 _ (by decide) (by decide),hv 2 w 1 0 _ (by decide) (by decide),hv 3 w 1 0 _ (by decide) (by decide),levy_no _ _ _ _ c hc,assess_no _ _ _ _ c hc,moveL_leg hg];have e1:((⟨5,0,(i:Int)⟩:AcctV)=varA c) ↔ (i:Int)=c:=by simp [varA]
 have e2:¬ ((⟨2,w,(i:Int)⟩:AcctV)=varA c):=by simp [varA]
 rw [if_neg e2];simp only [e1];omega
theorem outG_var {s:StateV} {w c:Int} (hc:0<=c/\c<=2):∀ (m i:Nat) (l:LedV) (p:List DueV),(outG s w m i l p).2.2=0->ofL (varA c) (outG s w m i l p).1.bs=ofL (varA c) l.bs+if (i:Int)<=c/\c < (i:Int)+m then -outGain s w c.toNat else 0
 | 0,i,l,p,_=>by simp only [outG];rw [if_neg (by omega)];omega
 | m+1,i,l,p,h=>by
  simp only [outG] at h |-;split
  ·rename_i h0;rw [if_pos h0] at h;obtain ⟨p1,p2⟩:=postIf_of (varA_in hc) h0;rw [outG_var hc m (i+1) _ _ h,p2];have hv:sumL (legS (varA c) (outChg s w i).1)=if (i:Int)=c then -outGain s w i else 0:=chg_var hc (grossN_in _ _ _) p1
   rw [hv]
   by_cases hi:(i:Int)=c
   ·have:c.toNat=i:=by omega
    rw [this,if_pos hi,if_neg (by omega),if_pos (by omega)];omega
   ·rw [if_neg hi]
    by_cases hj:(i:Int) < c/\c < (i:Int)+(m+1:Nat)
    ·rw [if_pos (by omega),if_pos (by omega)];omega
    ·rw [if_neg (by omega),if_neg (by omega)];omega
  ·rename_i h0;rw [if_neg h0] at h;exact absurd h h0
theorem wc_keep (m:Int->Int) (w:Int) (l:List PosV):tot (keepP w l) (wc m)+tot l (fun p=>if p.who=w then wc m p else 0)=tot l (wc m):=by
 unfold keepP;rw [tot_flat,<- tot_add];refine tot_congr fun p _=>?_
 by_cases h:p.who=w
 ·rw [if_pos (by simpa using h),if_pos h];simp [tot,sumL]
 ·rw [if_neg (by simpa using h),if_neg h];simp [tot,sumL]
theorem win_tot {s:StateV} {w c:Int}:∀ {l:List PosV},(∀ p∈l,instIs s.roll p.inst=true)->sumL (grsL w c (winsL s w l)) = -tot l (fun p=>if p.who=w then wc (mR s.roll c) p else 0)
 | [],_=>rfl
 | p :: r,h=>by
  have ih:=win_tot (s:=s) (w:=w) (c:=c) (l:=r) fun q hq=>h q (by simp [hq])
  have hi:=h p (by simp);rw [grs_tot] at ih |-;unfold winsL at ih |-;rw [List.flatMap_cons,tot_app,ih,tot_cons]
  have:tot (winD s w p) (fun d=>if d.who=w/\d.cur=c then d.amt else 0) = -(if p.who=w then wc (mR s.roll c) p else 0):=by
   unfold winD
   by_cases hw:p.who=w
   ·rw [if_pos (by simpa using hw),if_pos hw];simp only [tot,List.map_cons,List.map_nil,sumL,true_and,wc,mR,hi,Bool.true_and,beq_iff_eq,worthS];split
    ·generalize (instOf s.roll p.inst).mult=m;rw [Int.zero_mul,Int.mul_zero,Int.neg_mul,Int.mul_comm p.cost m];omega
    ·simp
   ·rw [if_neg (by simpa using hw),if_neg hw];rfl
  rw [this];omega
theorem paper_out {s:StateV} {w:Int} (hp:paperP s) (he:outE s w=0):paperP (outS s w):=by
 unfold outS;rw [if_pos he];obtain ⟨e1,e2,_,e4⟩:=outE_ok he;obtain ⟨hm,hG⟩:=posnE_ok e1;obtain ⟨h1,hs⟩:=mayE_ok hm;have hr:=right_iff.1 h1;have hpz:=putE_zero hr.roll (w:=w) (p:=3) (by omega) (by omega);obtain ⟨_,_,hns,_⟩:=put_ok hpz;have hw:=(st_rng hr.roll (w:=w) (by omega)).2;have hknow:=(posG_ok hr hw hs 8 0 rfl (b:=s.book) ⟨hr.book,hr.known,rfl⟩ (fun k hk=>by omega) hG).1.known;have hgA:=firstE3_at e2;intro c hc;dsimp only;rw [mR_ns hns,outG_var hc 3 0 s.led [] e4,if_pos (by omega)];have hq:(posnB s w).qs=keepP w (posG s w 8 0 s.book).1.qs:=by unfold posnB;rw [if_pos e1]
 have hd:posnD s w=winsL s w (posG s w 8 0 s.book).1.qs:=by unfold posnD;rw [if_pos e1]
 have hgE:grossE w ((c.toNat:Nat):Int) (posnD s w)=0:=hgA c.toNat (by omega) (by omega)
 have hgain:outGain s w c.toNat = -tot (posG s w 8 0 s.book).1.qs (fun p=>if p.who=w then wc (mR s.roll c) p else 0):=by
  unfold outGain grossN;rw [if_pos hgE,hd,show ((c.toNat:Nat):Int)=c by omega];exact win_tot fun p hp=>(hknow.qs p hp).2
 have hk:=wc_keep (mR s.roll c) w (posG s w 8 0 s.book).1.qs;have hwp:=wc_posG (mR s.roll c) (s:=s) (w:=w) 8 0 hG;have:=hp c hc;rw [hq,hgain];omega
theorem paper_margin {s:StateV} (hp:paperP s) (he:marginE s=0):paperP (marginS s):=by
 unfold marginS;rw [if_pos he];exact hp
theorem paper_open {s:StateV} (hp:paperP s) (he:openE s=0):paperP (openS s):=by
 unfold openS;rw [if_pos he];exact hp
theorem doesM_paper {s:StateV} {c:CmdV} (h:s.right) (hp:paperP s) (he:(doesM s c).2.1=0):paperP (doesM s c).1:=by
 revert he
 exact doesM_cases s c (P:=fun m=>m.2.1=0->paperP m.1) (fun he=>paper_roll h hp (admit_ok he).2) (fun he=>paper_roll h hp (list_ok he).2) (fun he=>paper_roll h hp (hold_ok he).2) (fun _=>paper_pay hp c) (fun _=>paper_pledge hp c _) (fun _=>paper_p25 hp (noVar_mv (by decide) (by decide)))
  (fun he=>paper_trade h hp c he) (fun he=>paper_settle hp he) (fun he=>paper_margin hp he) (fun he=>paper_open hp he) (fun he=>paper_tick hp he) (fun _=>paper_bid hp c) (fun he=>paper_out hp he) (fun _=>paper_refG 3 0 [] hp) (fun _ _ _=>hp)
theorem doR_paper {s:StateV} {c:CmdV} (h:s.right) (hp:paperP s):paperP (doR s c).1:=by
 unfold doR;split
 ·exact hp
 show paperP (doesR s c).1
 unfold doesR doesF;split
 ·rename_i he;exact doesM_paper h hp he
 ·exact hp
theorem holds_of {s:StateV} (h:s.right) (hp:paperP s):holdsB s=true:=by
 have hb:=book_iff.1 h.book;have hl:=led_ok_iff.1 h.led;simp only [holdsB,bae,right_iff.2 h,true_and,List.all_eq_true];refine ⟨fun i hi=>?_,fun c hc=>⟨?_,?_⟩⟩
 ·simp only [qZ,beq_iff_eq];exact hb.level _ (by omega) (by have:=List.mem_range.1 hi;omega)
 ·simp only [mZ,beq_iff_eq];rw [mon_nil];exact curL_zero h.led _
 ·simp only [pZ,beq_iff_eq];rw [sumL_append,var_of _ hl.2.1.2]
  have e:sumL (papL s.roll (c:Nat) s.book.qs)=tot s.book.qs (wc (mR s.roll (c:Nat))):=by
   rw [<- papT_wc];unfold papL papT;generalize s.book.qs=l
   induction l with
   | nil=>rfl
   | cons p r ih =>
    rw [tot_cons,List.filter_cons];split
    ·rename_i hq;rw [List.map_cons,sumL,ih]
    ·rename_i hq;rw [ih];omega
  rw [e];exact hp _ (by have:=List.mem_range.1 hc;omega)
end Go.Proofs.YtgnhdbdipfncgaaGreat
