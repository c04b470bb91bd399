/- What always holds behind commands: the law. No theorem of a claim. -/
import Derived.Test.YtgnhdbdipfncgaaGreatKL
set_option linter.unusedSimpArgs false
set_option linter.unusedVariables false
namespace Go.Proofs.YtgnhdbdipfncgaaGreat
open Go.Abs
theorem paper_zero {s:StateV} (h:s.right) (hp:paperP s) {c:Int} (hc:0<=c/\c<=2):sumL (varL c s.led.bs++papL s.roll c s.book.qs)=0:=by
 have hh:=holds_of h hp;simp only [holdsB,bae,List.all_eq_true,pZ,beq_iff_eq] at hh;have:=(hh.2.2 c.toNat (List.mem_range.2 (by omega))).2
 rwa [show ((c.toNat:Nat):Int)=c by omega] at this
theorem holds_yes {s:StateV} (h:s.fine) (hp:paperP s):Abs.Spec Tryz.prog 9 [] [.agg s.cells] [] (.bool true):=by
 have l:=h.right.lens;have h1:=l.ns;have h2:=l.qs;have h3:=l.bs;have e:=auditHolds_spec s ⟨h.good.small,by omega,by omega,by omega⟩ (by omega) (by omega) (h.right.rng h.last h.fit)
 rwa [holds_of h.right hp] at e
set_option maxHeartbeats 2000000 in
set_option maxRecDepth 8000 in
theorem law_auditHolds (l:List CmdV):Abs.Spec Tryz.prog 3 [] [.sl 17 (l.map CmdV.cells)] [] (.bool true):=by
 have hwk:=wakes27_spec;rcases Nat.lt_or_ge 1000 l.length with hlen | hlen
 ·have d:decide ((1000:Int) < (l.length:Int))=true:=decide_eq_true (by omega);refine sgo 119 1 [.tmp 2] mixed Tryz.func3 ?_;simp only [go_sem,seval,lml,d]
 have d:decide ((1000:Int) < (l.length:Int))=false:=decide_eq_false (by omega);obtain ⟨R,hR⟩:=nmE (growG (l.take 200) (StateV.zero,List.replicate 9 0));have hfin:=growR_ok l;rw [show growR l=R.1 by rw [hR];rfl] at hfin;obtain ⟨L,hL⟩:=nmE (l.take 200);rw [<- hL] at hR;obtain ⟨n,hn⟩:=nmE (L.length)
 have hn2:n<=l.length/\n<=200/\(n=l.length\/n=200):=by
  rw [hn,hL,List.length_take];omega
 have hat:∀ i (h1:i < L.length) (h2:i < l.length),L[i]=l[i]:=fun i h1 h2=>by
  subst hL;simp
 clear hL;refine sgo 119 1 [.tmp 2] mixed Tryz.func3 ?_;simp only [go_sem,seval,lml,d];(with_reducible and_intros)<;>first|exact .dq|omega|skip
 refine LoopK.walk (S:=StateV × List Int) n [0,3,4] [] (fun i _=>[(5,.int .i64 i)]) (fun i x=>[(64,.box x.1.cells),(80,.box (ql x.2))]) (fun i x=>growG (L.drop i) x=R/\growOk x i) (StateV.zero,List.replicate 9 0) ⟨hR.symm,grow0⟩ ?_ ?_ ?_
 ·have hz:ql (List.replicate 9 0)=[.int .i64 0,.int .i64 0,.int .i64 0,.int .i64 0,.int .i64 0,.int .i64 0,.int .i64 0,.int .i64 0,.int .i64 0]:=rfl;simp only [go_sem,seval,StateV.cells,StateV.zero,hz,pl];exact leDL_leaf (by simp [leafB])
 ·intro i x hi hdi hwi hI;obtain ⟨hI,hx⟩:=hI;rw [drop_at (by omega:i < L.length),hat i (by omega) (by omega)] at hI;have hm:=map_at (c:=CmdV.cells) l (by omega:i < l.length);have hd1:decide ((i:Int) < (l.length:Int))=true:=decide_eq_true (by omega);have hd2:decide ((i:Int) < 200)=true:=decide_eq_true (by omega);have hli:(i:Int) < (l.length:Int):=by omega
  obtain ⟨c,hc⟩:=nmE (l[i]);rw [<- hc] at hm hI;simp only [growG] at hI;have hnext:=growS_ok c hx;obtain ⟨s,q⟩:=x;have hq9:q.length=9:=hx.len;have hcl:=client_rng c;have hce:=client_eq c.client;have hqn:=hx.num _ (getD_mem (q:=q) (k:=(clientN c).toNat) (by omega));have hDo:=ref25Do_spec s (numC q c) hx.fine;have hs1:growS (s,q) c=((doR s (numC q c)).1,if (doR s (numC q c)).2.code=6\/(doR s (numC q c)).2.code=21 then q else q.set (clientN c).toNat (q.getD (clientN c).toNat 0+1)):=rfl;rw [hs1] at hI hnext;obtain ⟨Z,hZ⟩:=nmE (doR s (numC q c));rw [<- hZ] at hDo hI hnext;clear hZ hs1;obtain ⟨T,P⟩:=Z;dsimp only at hDo hI hnext |-;have hHT:=holds_yes hnext.fine hnext.paper;dsimp only at hHT;simp only [numC] at hDo;obtain ⟨m,hm0⟩:=nmE (clientN c);have hce:IntKind.wrap .i64 (1+IntKind.wrap .i64 ((IntKind.wrap .u64 c.client).tmod 8))=m:=by rw [hm0];exact hce
  rw [<- hm0] at hDo hI hnext hcl hqn;have hld:=ql_at (q:=q) (k:=m.toNat) (by omega);have hst:=ql_set (q:=q) (k:=m.toNat) (by omega);have hql:=ql_len q;obtain ⟨v,hv⟩:=nmE (q.getD m.toNat 0);rw [<- hv] at hDo hI hnext hqn hld;have hw1:IntKind.wrap .i64 (v+1)=v+1:=wr64 (by omega) (by omega);have hm9:m < 9:=by omega
  clear hR hat hv hm0 hx;obtain ⟨B,hB⟩:=nmE (ql q);rw [<- hB] at hld hst hql |-;clear hc;simp only [StateV.cells,CmdV.cells,ReplyV.cells] at hDo hm hHT |-;simp only [go_sem,seval,lml,hd1,hd2,hm,Int.toNat_natCast,hce,hld,hw1,hql,Nat.mul_one];(with_reducible and_intros)<;>first|exact .dq|omega|skip
  refine CallN.pure hDo ?_
  by_cases k6:P.code=6
  ·have d6:(P.code==6)=true:=by simpa using k6
   rw [if_pos (.inl k6)] at hI hnext;simp only [go_sem,seval,bne,d6,hwi];(with_reducible and_intros)<;>first|exact .dq|omega|skip
   refine CallN.pure hHT ?_;simp only [go_sem,seval,hwi];(with_reducible and_intros)<;>first|exact .dq|omega|skip
   refine RoundK.step (T,q) hi ⟨hI,hnext⟩ ?_;simp only [go_sem,seval,StateV.cells,<- hB];exact leDL_leaf (by rw [hB];exact ql_leaf q)
  have d6:(P.code==6)=false:=by simpa using k6
  by_cases k21:P.code=21
  ·have d21:(P.code==21)=true:=by simpa using k21
   rw [if_pos (.inr k21)] at hI hnext;simp only [go_sem,seval,bne,d6,d21,hwi];(with_reducible and_intros)<;>first|exact .dq|omega|skip
   refine CallN.pure hHT ?_;simp only [go_sem,seval,hwi];(with_reducible and_intros)<;>first|exact .dq|omega|skip
   refine RoundK.step (T,q) hi ⟨hI,hnext⟩ ?_;simp only [go_sem,seval,StateV.cells,<- hB];exact leDL_leaf (by rw [hB];exact ql_leaf q)
  have d21:(P.code==21)=false:=by simpa using k21
  rw [if_neg (by omega)] at hI hnext;simp only [go_sem,seval,bne,d6,d21,hwi,hld,hw1,hql,Nat.mul_one];(with_reducible and_intros)<;>first|exact .dq|omega|skip
  refine CallN.pure hHT ?_;simp only [go_sem,seval,hwi];(with_reducible and_intros)<;>first|exact .dq|omega|skip
  refine RoundK.step (T,q.set m.toNat (v+1)) hi ⟨hI,hnext⟩ ?_;have hst2:List.take m.toNat B++[.int .i64 (v+1)]++List.drop (m.toNat+1) B=ql (q.set m.toNat (v+1)):=by rw [<- hst];simp
  simp only [go_sem,seval,StateV.cells,hst,hst2];exact leDL_leaf (ql_leaf _)
 ·intro x hdx hI;have hI:=hI.1;rw [hn,List.drop_length] at hI;have hI:x=R:=hI;subst hI;obtain ⟨s,q⟩:=x;dsimp only at hfin |-;obtain ⟨hf,hp⟩:=hfin;have hb:=book_iff.1 hf.right.book;have hl:=led_ok_iff.1 hf.right.led;have hls:=hf.right.lens;have hrng:=hf.right.rng hf.last hf.fit;have hlb:=hls.bs;have hlq:=hls.qs;have hlns:=hls.ns
  have hQ:∀ n:Int,1<=n->n<=8->Abs.Spec Tryz.prog 10 [] [.agg s.cells,.int .i64 n] [] (.tup [.int .i64 0,.int .i64 0]):=fun n h1 h8=>by
   have h:=auditQty_spec s n hrng (by omega);rw [hb.level n h1 h8] at h;exact h
  have hM:∀ c:Int,Abs.Spec Tryz.prog 11 [] [.agg s.cells,.int .i64 c,.nil] [] (.tup [.int .i64 0,.int .i64 0]):=fun c=>by
   have h:=Spec.le_args (auditMoney_spec s c [] hrng (by omega) (by decide)) (ds':=[.agg s.cells,.int .i64 c,.nil]) (by simp [leDL,leD,ints]);rw [mon_nil,curL_zero hf.right.led] at h;exact h
  have hP:∀ c:Int,0<=c/\c<=2->Abs.Spec Tryz.prog 12 [] [.agg s.cells,.int .i64 c] [] (.tup [.int .i64 0,.int .i64 0]):=fun c hc=>by
   have h:=auditPaper_spec s c hrng (by omega) (by omega) (by omega);rw [paper_zero hf.right hp hc] at h;exact h
  clear hf hp hb hl hls hrng hlb hlq hlns hR;simp only [StateV.cells] at hQ hM hP |-;have hB:∀ {p:Prop},p->p:=fun h=>h
  rcases hn2.2.2 with e | e
  case' inl =>
   have hd1:decide ((n:Int) < (l.length:Int))=false:=decide_eq_false (by omega);simp only [go_sem,seval,lml,hd1]
  case' inr =>
   have hd2:decide ((n:Int) < 200)=false:=decide_eq_false (by omega);cases hd1:decide ((n:Int) < (l.length:Int))<;>simp only [go_sem,seval,lml,hd1,hd2]
  all_goals
   refine LoopK.walk (S:=Unit) 8 [3] [64] (fun i _=>[(9,.int .i64 ((i:Int)+1))]) (fun _ _=>[]) (fun _ _=>True) () trivial ?_ ?_ ?_
   ·simp only [go_sem,seval]<;>simp
   ·intro i _ hi _ _ _;have hdi:decide ((i:Int)+1<=8)=true:=decide_eq_true (by omega);have hw:IntKind.wrap .i64 ((i:Int)+1+1)=((i+1:Nat):Int)+1:=by rw [wr64 (by omega) (by omega)];omega
    have hQi:=hQ ((i:Int)+1) (by omega) (by omega);obtain ⟨k,hk⟩:=nmE ((i:Int)+1);rw [<- hk] at hdi hw hQi |-;clear hQ hM hP;simp only [go_sem,seval,hdi];(with_reducible and_intros)<;>first|exact .dq|omega|skip
    refine CallN.pure hQi ?_;simp only [go_sem,seval,hw];(with_reducible and_intros)<;>first|exact .dq|omega|skip
    refine RoundK.step () hi trivial ?_;simp only [go_sem,seval]<;>simp
   intro _ _ _;have hdx:decide (((8:Nat):Int)+1<=8)=false:=by decide
   simp only [go_sem,seval,hdx];(with_reducible and_intros)<;>first|exact .dq|omega|skip
   refine LoopK.walk (S:=Unit) 3 [3] [64] (fun i _=>[(12,.int .i64 i)]) (fun _ _=>[]) (fun _ _=>True) () trivial ?_ ?_ ?_
   ·simp only [go_sem,seval]<;>simp
   ·intro i _ hi hdi hw _;have hdi:decide ((i:Int) < 3)=true:=hdi;have hMi:=hM (i:Int);have hPi:=hP (i:Int) (by omega);clear hQ hM hP;simp only [go_sem,seval,hdi];(with_reducible and_intros)<;>first|exact .dq|omega|skip
    refine CallN.pure hMi ?_;simp only [go_sem,seval];(with_reducible and_intros)<;>first|exact .dq|omega|skip
    refine CallN.pure hPi ?_;simp only [go_sem,seval,hw];(with_reducible and_intros)<;>first|exact .dq|omega|skip
    refine RoundK.step () hi trivial ?_;simp only [go_sem,seval]
   intro _ hdx _;have hdx:decide ((3:Int) < 3)=false:=by decide
   simp only [go_sem,seval,hdx];(with_reducible and_intros)<;>first|exact .dq|omega|skip
   refine CallN.pure hwk ?_;simp only [go_sem,seval]
end Go.Proofs.YtgnhdbdipfncgaaGreat
