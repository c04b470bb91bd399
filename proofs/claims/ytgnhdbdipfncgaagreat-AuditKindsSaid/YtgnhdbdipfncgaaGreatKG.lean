/- The reference's legs of nets; greedy shares, falls, and what follows. No theorem of a claim. -/
import Derived.Test.YtgnhdbdipfncgaaGreatKF
set_option linter.unusedSimpArgs false
set_option linter.unusedVariables false
set_option maxHeartbeats 4000000
set_option maxRecDepth 16000
namespace Go.Proofs.YtgnhdbdipfncgaaGreat
open Go.Abs
theorem netG_ok (l:List DueV):∀ (n:Nat) (f:Bool) (last:DueV) (out:List DueV),(∀ d∈out,inR d.amt=true)->∀ d∈(netG l n f last out).1,inR d.amt=true
 | 0,_,_,out,h=>h
 | n+1,f,last,out,h=>by
  simp only [netG];split
  ·split
   ·refine netG_ok l n _ _ _ ?_;intro d hd;rcases List.mem_append.1 hd with hd | hd
    ·exact h d hd
    ·unfold netP at hd;split at hd
     ·cases hd
     ·obtain rfl:=List.mem_singleton.1 hd;exact grossN_in _ _ _
   ·intro d hd;cases hd
  ·exact h
theorem netG_len (l:List DueV):∀ (n:Nat) (f:Bool) (last:DueV) (out:List DueV),(netG l n f last out).1.length<=out.length+n
 | 0,_,_,out=>Nat.le_refl _
 | n+1,f,last,out=>by
  simp only [netG];split
  ·split
   ·refine Nat.le_trans (netG_len l n _ _ _) ?_;have:∀ d,(netP l d).length<=1:=fun d=>by unfold netP;split<;>simp
    rw [List.length_append];have:=this (scanL f last l (false,.zero)).2;omega
   ·simp
  ·simp
theorem netR_ok (l:List DueV):(∀ d∈(netR l).1,inR d.amt=true)/\(netR l).1.length<=l.length+1:=by
 unfold netR;split
 ·exact ⟨netG_ok l _ _ _ _ (by simp),Nat.le_trans (netG_len l _ _ _ _) (by simp)⟩
 ·exact ⟨by simp,by simp⟩
def nlegs (l:List DueV):List LegV:=l.flatMap fun d=>[⟨2,d.who,d.cur,d.amt⟩,⟨5,0,d.cur,-d.amt⟩]
def cashB (l:List DueV):Bool:=l.all fun d=>AcctV.right ⟨2,d.who,d.cur⟩
def nlegE (l:List DueV):Int:=if cashB l then (if (netR l).2=0 then joinE (nlegs (netR l).1) else (netR l).2) else 3
def nlegL (l:List DueV):List LegV:=if nlegE l=0 then joinL (nlegs (netR l).1) else []
theorem nlegs_len (l:List DueV):(nlegs l).length<=2*l.length:=fm_len (fun d=>by simp) l
theorem refNetLegs_spec (l:List DueV) (hl:l.length < 2 ^ 27):Abs.Spec Tryz.prog 238 [] [.sl 3 (l.map DueV.cells)] [] (.tup [.sl 4 ((nlegL l).map LegV.cells),.int .i64 (nlegE l)]):=by
 have hN:=refNet_spec l (by omega);obtain ⟨hno,hnl⟩:=netR_ok l;have hJ:=ref8Join_spec (nlegs (netR l).1) (by have:=nlegs_len (netR l).1;omega)
 have e0:nlegL l=if cashB l&&(netR l).2==0 then joinL (nlegs (netR l).1) else []:=by
  by_cases hc:cashB l=true
  ·by_cases h:(netR l).2=0
   ·by_cases h2:joinE (nlegs (netR l).1)=0
    ·simp [nlegL,nlegE,hc,h,h2]
    ·simp [nlegL,nlegE,hc,h,h2,joinL]
   ·simp [nlegL,nlegE,hc,h]
  ·simp [nlegL,nlegE,hc]
 simp only [nlegE];rw [e0];clear e0;obtain ⟨m,hm⟩:=nmE ((netR l).1);obtain ⟨e,he⟩:=nmE ((netR l).2);rw [<- hm] at hN hno hnl hJ;rw [<- he] at hN;rw [<- hm,<- he];clear hm he;refine sgo 79 1 [.tmp 2,.tmp 3] mixed Tryz.func238 ?_;simp only [go_sem,seval,lml];refine LoopK.walk (S:=Unit) l.length [0] [] (fun i _=>[(4,.int .i64 i)]) (fun _ _=>[]) (fun i _=>cashB (l.drop i)=cashB l) () rfl ?_ ?_ ?_
 ·simp only [go_sem,seval]<;>simp
 ·intro i _ hi hdi hwi hI;have hm:=map_at (c:=DueV.cells) l hi;have hli:(i:Int) < (l.length:Int):=by omega
  obtain ⟨x,hx⟩:=nmE (l[i]);have hR:=ref8Right_spec ⟨2,x.who,x.cur⟩;rw [drop_at hi,<- hx] at hI;rw [<- hx] at hm;have hc:cashB (x :: l.drop (i+1))=(AcctV.right ⟨2,x.who,x.cur⟩&&cashB (l.drop (i+1))):=rfl;rw [hc] at hI;simp only [DueV.cells] at hm;simp only [AcctV.cells] at hR;clear hN hJ;simp only [go_sem,seval,lml,hdi,hm];(with_reducible and_intros)<;>first|exact .dq|omega|skip
  refine CallN.pure hR ?_;cases q:AcctV.right ⟨2,x.who,x.cur⟩
  ·rw [q,Bool.false_and] at hI;rw [<- hI];simp only [go_sem,seval]<;>simp
  rw [q,Bool.true_and] at hI;simp only [go_sem,seval,hwi];refine RoundK.step () hi hI ?_;simp only [go_sem,seval]
 intro _ hdx hI;rw [List.drop_length] at hI;rw [<- hI,show cashB []=true from rfl];clear hI;simp only [go_sem,seval,lml,hdx];(with_reducible and_intros)<;>first|exact .dq|omega|skip
 refine CallN.pure hN ?_
 by_cases q:e=0
 case neg =>
  have d:(e==0)=false:=by simpa using q
  simp only [go_sem,seval,bne,d,if_neg q]
  all_goals simp
 rw [q,show (if ((0:Int)==0)=true then joinL (nlegs m) else [])=joinL (nlegs m) from rfl,if_pos rfl];simp only [go_sem,seval,lml];(with_reducible and_intros)<;>first|exact .dq|omega|skip
 clear hN hdx;refine LoopK.walk (S:=Unit) m.length [5] [] (fun i _=>[(8,.int .i64 i),(7,.ref 1200)]) (fun i _=>[(1200,.own 4 ((nlegs (m.take i)).map LegV.cells))]) (fun _ _=>True) () trivial ?_ ?_ ?_
 ·simp only [go_sem,seval]<;>simp [nlegs]
 ·intro i _ hi hdi hwi _;have hm:=map_at (c:=DueV.cells) m hi;have hli:(i:Int) < (m.length:Int):=by omega
  have hs:nlegs (m.take (i+1))=nlegs (m.take i)++_:=fm_step _ hi;have hnl:=nlegs_len (m.take i);have hlt:(m.take i).length=i:=by simp;omega
  have hin:=inR_iff.1 (hno m[i] (List.getElem_mem hi));obtain ⟨L,hL⟩:=nmE (nlegs (m.take i));obtain ⟨x,hx⟩:=nmE (m[i]);rw [<- hL] at hs hnl |-;rw [<- hx] at hs hm hin;have hw:IntKind.wrap .i64 (0-x.amt) = -x.amt:=by rw [wr64 (by omega) (by omega)];omega
  simp only [DueV.cells] at hm;clear hJ;simp only [go_sem,seval,lml,hdi,hm,hw,hwi];(with_reducible and_intros)<;>first|exact .dq|omega|skip
  refine RoundK.step () hi trivial ?_;simp only [go_sem,seval,hs]<;>simp
 ·intro _ hdx _;simp only [go_sem,seval,lml,hdx,List.take_length];(with_reducible and_intros)<;>first|exact .dq|omega|skip
  refine CallN.gen [1200] [] false (by simp) ?_;simp only [go_sem,seval];refine CallG.intro hJ ?_;simp only [go_sem,seval]
theorem refAll01_spec (l:List Int) (hl:l.length < 2 ^ 60):Abs.Spec Tryz.prog 328 [] [.sl 1 (ints l)] [] (.bool (right l)):=by
 refine sgo 16 1 [.tmp 2] mixed Tryz.func328 ?_;simp only [go_sem,seval,ints_len];refine LoopK.walk (S:=Unit) l.length [0] [] (fun i _=>[(3,.int .i64 i)]) (fun _ _=>[]) (fun i _=>right (l.drop i)=right l) () rfl ?_ ?_ ?_
 ·simp only [go_sem,seval]<;>simp
 ·intro i _ hi hdi hwi hI;have hm:=ints_at l hi;have hli:(i:Int) < (l.length:Int):=by omega
  obtain ⟨x,hx⟩:=nmE (l[i]);have hN:=refRight_spec x;rw [drop_at hi,<- hx] at hI;rw [<- hx] at hm;have hc:right (x :: l.drop (i+1))=(inR x&&right (l.drop (i+1))):=rfl;rw [hc] at hI;simp only [go_sem,seval,ints_len,hdi,hm];(with_reducible and_intros)<;>first|exact .dq|omega|skip
  refine CallN.pure hN ?_;cases q:inR x
  ·rw [q,Bool.false_and] at hI;rw [<- hI];simp only [go_sem,seval]
  rw [q,Bool.true_and] at hI;simp only [go_sem,seval,hwi];refine RoundK.step () hi hI ?_;simp only [go_sem,seval]
 ·intro _ hdx hI;rw [List.drop_length] at hI;rw [<- hI];simp only [go_sem,seval,ints_len,hdx];rfl
def posB (l:List Int):Bool:=l.all fun x=>!decide (x < 0)
def greL:Int->List Int->List Int
 | _,[]=>[]
 | t,c :: r=>min t c :: greL (t-min t c) r
def greT:Int->List Int->Int
 | t,[]=>t
 | t,c :: r=>greT (t-min t c) r
def greE (t:Int) (l:List Int):Int:=if (!decide (t < 0)&&inR t)&&right l then (if posB l then (if 1024 < l.length then 5 else 0) else 3) else 3
theorem refGreedy_own (t:Int) (l:List Int) (hl:l.length < 2 ^ 30):Abs.Spec Tryz.prog 304 [] [.int .i64 t,.sl 1 (ints l)] [.own 1 (ints (if greE t l=0 then greL t l else []))] (.tup [.ref 0,.int .i64 (if greE t l=0 then greT t l else 0),.int .i64 (greE t l)]):=by
 have c1:=refRight_spec t;have c2:=refAll01_spec l (by omega);refine sgo 58 2 [.tmp 4,.tmp 5,.tmp 6] mixed Tryz.func304 ?_
 by_cases q0:t < 0
 ·have d:decide (t < 0)=true:=decide_eq_true q0;have e:greE t l=3:=by simp [greE,q0]
  rw [e];simp only [go_sem,seval,d]<;>simp [ints]
 have d0:decide (t < 0)=false:=decide_eq_false q0;simp only [go_sem,seval,d0];refine CallN.pure c1 ?_;cases q1:inR t
 ·have e:greE t l=3:=by simp [greE,q1]
  rw [e];simp only [go_sem,seval]<;>simp [ints]
 simp only [go_sem,seval];refine CallN.pure c2 ?_;cases q2:right l
 ·have e:greE t l=3:=by simp [greE,q2]
  rw [e];simp only [go_sem,seval]<;>simp [ints]
 have e:greE t l=if posB l then (if 1024 < l.length then 5 else 0) else 3:=by simp only [greE,d0,q1,q2];rfl
 rw [e];clear e c1 c2;have hin:=fun x hx=>inR_iff.1 (List.all_eq_true.1 q2 x hx)
 have htin:=inR_iff.1 q1;simp only [go_sem,seval,ints_len];refine LoopK.walk (S:=Unit) l.length [0,1] [] (fun i _=>[(7,.int .i64 i)]) (fun _ _=>[]) (fun i _=>posB (l.drop i)=posB l) () rfl ?_ ?_ ?_
 ·simp only [go_sem,seval]<;>simp
 ·intro i _ hi hdi hwi hI;have hm:=ints_at l hi;have hli:(i:Int) < (l.length:Int):=by omega
  obtain ⟨x,hx⟩:=nmE (l[i]);rw [drop_at hi,<- hx] at hI;rw [<- hx] at hm;have hc:posB (x :: l.drop (i+1))=(!decide (x < 0)&&posB (l.drop (i+1))):=rfl;rw [hc] at hI
  by_cases q:x < 0
  ·have d:decide (x < 0)=true:=decide_eq_true q;rw [d,Bool.not_true,Bool.false_and] at hI;rw [<- hI];simp only [go_sem,seval,ints_len,hdi,hm,d];(with_reducible and_intros)<;>first|exact .dq|omega|skip
   all_goals simp [ints]
  ·have d:decide (x < 0)=false:=decide_eq_false q;rw [d,Bool.not_false,Bool.true_and] at hI;simp only [go_sem,seval,ints_len,hdi,hm,d,hwi];(with_reducible and_intros)<;>first|exact .dq|omega|skip
   refine RoundK.step () hi hI ?_;simp only [go_sem,seval]
 intro _ hdx hI;rw [List.drop_length] at hI;have hI:posB l=true:=hI.symm
 have hnn:∀ x∈l,0<=x:=fun x hx=>by
  have:=List.all_eq_true.1 hI x hx;simp only [Bool.not_eq_true',decide_eq_false_iff_not] at this;omega
 by_cases q4:1024 < l.length
 ·have d:decide (1024 < (l.length:Int))=true:=decide_eq_true (by omega);simp only [go_sem,seval,ints_len,hdx,hI,if_pos q4,d];(with_reducible and_intros)<;>first|exact .dq|omega|skip
  all_goals simp [ints]
 have d4:decide (1024 < (l.length:Int))=false:=decide_eq_false (by omega);simp only [go_sem,seval,ints_len,hdx,hI,if_neg q4,d4];(with_reducible and_intros)<;>first|exact .dq|omega|skip
 clear hdx hI;refine LoopK.walk (S:=Int × List Int) l.length [1] [] (fun i s=>[(9,.int .i64 i),(0,.int .i64 s.1),(8,.ref 848)]) (fun i s=>[(848,.own 1 (ints s.2))]) (fun i s=>(s.2++greL s.1 (l.drop i)=greL t l/\greT s.1 (l.drop i)=greT t l)/\(0<=s.1/\s.1<=t)/\s.2.length=i) (t,[]) ⟨⟨rfl,rfl⟩,by omega,rfl⟩ ?_ ?_ ?_
 ·simp only [go_sem,seval]<;>simp [ints]
 ·rintro i ⟨u,L⟩ hi hdi hwi ⟨⟨h1,h2⟩,h3,h4⟩
  dsimp only at h1 h2 h3 h4;have hm:=ints_at l hi;have hli:(i:Int) < (l.length:Int):=by omega
  have hx1:=hin _ (List.getElem_mem hi);have hx2:=hnn _ (List.getElem_mem hi);obtain ⟨x,hx⟩:=nmE (l[i]);rw [drop_at hi,<- hx] at h1 h2;rw [<- hx] at hm hx1 hx2;simp only [greL,greT] at h1 h2;have hw:IntKind.wrap .i64 (u-min u x)=u-min u x:=wr64 (by omega) (by omega);simp only [go_sem,seval,ints_len,hdi,hm,hw,hwi];(with_reducible and_intros)<;>first|exact .dq|omega|skip
  refine RoundK.step (u-min u x,L++[min u x]) hi ⟨⟨by rw [List.append_assoc];exact h1,h2⟩,by omega,by simp [h4]⟩ ?_;simp only [go_sem,seval]<;>simp [ints]
 ·rintro ⟨u,L⟩ hdx ⟨⟨h1,h2⟩,h3,h4⟩
  dsimp only at h1 h2;rw [List.drop_length] at h1 h2;simp only [greL,greT,List.append_nil] at h1 h2;simp only [go_sem,seval,ints_len,hdx,if_true,<- h1,<- h2]
  all_goals simp
theorem within19_spec (a b c:Int):Abs.Spec Tryz.prog 303 [] [.int .i64 a,.int .i64 b,.int .i64 c] [] (.bool (within a b c)):=by
 refine sgo 15 3 [.tmp 6] mixed Tryz.func303 ?_;simp only [go_sem,seval]
 repeat' with_reducible first|apply And.intro|exact .dq|refine CallN.pure (by assumption) ?_|refine .splitDN (fun h=>?_) fun h=>?_|refine .splitD (fun h=>?_) fun h=>?_|refine .splitN (fun h=>?_) fun h=>?_|refine .split (fun h=>?_) fun h=>?_|refine .id ?_|refine RoundK.next (by omega) ?_ ?_|exact trivial|simp only [*,go_sem,seval]
 all_goals (simp_all [within];try omega)
structure FillV where
 src:Int
 qty:Int
 price:Int
deriving DecidableEq
@[reducible] def FillV.cells (x:FillV):List D:=[.int .i64 x.src,.int .i64 x.qty,.int .i64 x.price]
def ahead (long:Bool) (a b:BidV):Bool:=if a.price==b.price then decide (a.src < b.src) else decide (b.price < a.price)==long
theorem refAhead_spec (long:Bool) (a b:BidV):Abs.Spec Tryz.prog 355 [] [.bool long,.agg a.cells,.agg b.cells] [] (.bool (ahead long a b)):=by
 simp only [BidV.cells];refine sgo 24 3 [.tmp 6] mixed Tryz.func355 ?_;cases q:a.price==b.price
 ·simp only [go_sem,seval,bne,q,ahead,bfe,if_false]
  all_goals (with_reducible and_intros)<;>first|exact .dq|omega|skip
 ·simp only [go_sem,seval,bne,q,ahead,if_true]
  all_goals (with_reducible and_intros)<;>first|exact .dq|omega|skip
def kpos (long:Bool) (x:BidV) (out:List BidV):Nat->Nat
 | 0=>0
 | k+1=>if ahead long x (out.getD k ⟨0,0,0,0,0⟩) then kpos long x out k else k+1
theorem kpos_le (long:Bool) (x:BidV) (out:List BidV):∀ k,kpos long x out k<=k
 | 0=>Nat.le_refl _
 | k+1=>by
  simp only [kpos];split
  ·have:=kpos_le long x out k;omega
  ·exact Nat.le_refl _
def insB (long:Bool) (x:BidV) (out:List BidV):List BidV:=out.take (kpos long x out out.length)++x :: out.drop (kpos long x out out.length)
def ordG (long:Bool):List BidV->List BidV->List BidV
 | out,[]=>out
 | out,x :: r=>ordG long (insB long x out) r
def ordL (long:Bool) (l:List BidV):List BidV:=ordG long [] l
theorem insB_len (long:Bool) (x:BidV) (out:List BidV):(insB long x out).length=out.length+1:=by
 have:=kpos_le long x out out.length;simp only [insB,List.length_append,List.length_cons,List.length_take,List.length_drop];omega
theorem ordG_len (long:Bool):∀ (l out:List BidV),(ordG long out l).length=out.length+l.length
 | [],out=>rfl
 | x :: r,out=>by simp only [ordG,ordG_len long r,insB_len,List.length_cons];omega
def hole (x:BidV) (out:List BidV) (k:Nat):List BidV:=(out++[x]).take (k+1)++out.drop k
theorem hole_len {x:BidV} {out:List BidV} {k:Nat} (h:k<=out.length):(hole x out k).length=out.length+1:=by
 simp only [hole,List.length_append,List.length_take,List.length_drop,List.length_cons,List.length_nil];omega
theorem hole_top (x:BidV) (out:List BidV):hole x out out.length=out++[x]:=by
 rw [hole,List.take_of_length_le (by simp),List.drop_length,List.append_nil]
theorem hole_get {x:BidV} {out:List BidV} {k:Nat} (h:k<=out.length) {j:Nat} (hj:j < out.length+1):(hole x out k)[j]'(by rw [hole_len h];exact hj)=if h1:j<=k then (out++[x])[j]'(by simp;omega) else out[j-1]'(by omega):=by
 simp only [hole];split
 ·rename_i h1;rw [List.getElem_append_left (by simp;omega),List.getElem_take]
 ·rename_i h1;rw [List.getElem_append_right (by simp;omega),List.getElem_drop];have:k+(j-((out++[x]).take (k+1)).length)=j-1:=by simp;omega
  simp only [this]
theorem hole_at {x:BidV} {out:List BidV} {k:Nat} (h:k+1<=out.length):(hole x out (k+1))[k]'(by rw [hole_len h];omega)=out[k]'(by omega):=by
 rw [hole_get h (by omega),dif_pos (by omega),List.getElem_append_left (by omega)]
theorem hole_set {x:BidV} {out:List BidV} {k:Nat} (h:k+1<=out.length):(hole x out (k+1)).set (k+1) (out[k]'(by omega))=hole x out k:=by
 refine List.ext_getElem (by rw [List.length_set,hole_len h,hole_len (by omega)]) ?_;intro j h1 h2;have hj:j < out.length+1:=by rw [List.length_set,hole_len h] at h1;exact h1
 rw [List.getElem_set,hole_get (k:=k) (by omega) hj,hole_get h hj];split
 ·rename_i e;subst e;rw [dif_neg (by omega)];simp
 ·split
  ·rename_i e1 e2
   by_cases e3:j<=k
   ·rw [dif_pos e3]
   ·omega
  ·rename_i e1 e2;rw [dif_neg (by omega)]
theorem hole_fin {x:BidV} {out:List BidV} {k:Nat} (h:k<=out.length):(hole x out k).set k x=out.take k++x :: out.drop k:=by
 have hl:(out.take k).length=k:=by simp;omega
 have e:(out++[x]).take (k+1)=out.take k++[(out++[x])[k]'(by simp;omega)]:=by
  rw [List.take_succ_eq_append_getElem (by simp;omega),List.take_append_of_le_length h]
 rw [hole,e,List.append_assoc,List.set_append_right _ _ (by omega),hl,Nat.sub_self];rfl
theorem refOrder_own (long:Bool) (l:List BidV) (hl:l.length < 2 ^ 29):Abs.Spec Tryz.prog 343 [] [.bool long,.sl 5 (l.map BidV.cells)] [.own 5 ((ordL long l).map BidV.cells)] (.ref 0):=by
 have hA:=fun a b=>refAhead_spec long a b
 refine sgo 56 2 [.tmp 4] mixed Tryz.func343 ?_;simp only [go_sem,seval,lml];refine LoopK.walk (S:=List BidV) l.length [0,1] [] (fun i _=>[(6,.int .i64 i),(5,.ref 96)]) (fun _ s=>[(96,.own 5 (s.map BidV.cells))]) (fun i s=>ordG long s (l.drop i)=ordL long l/\s.length=i) [] ⟨rfl,rfl⟩ ?_ ?_ ?_
 ·simp only [go_sem,seval]<;>simp
 ·rintro i out hi hdi hwi ⟨hI,hol⟩
  have hm:=map_at (c:=BidV.cells) l hi;have hli:(i:Int) < (l.length:Int):=by omega
  obtain ⟨x,hx⟩:=nmE (l[i]);rw [drop_at hi,<- hx] at hI;rw [<- hx] at hm;simp only [ordG] at hI;simp only [BidV.cells] at hm;simp only [go_sem,seval,lml,hdi,hm];(with_reducible and_intros)<;>first|exact .dq|omega|skip
  refine LoopK.over (T:=Nat) [0,1,6] [] (fun k=>[(7,.int .i64 k),(5,.ref 96)]) (fun k=>[(96,.own 5 ((hole x out k).map BidV.cells))]) (fun k=>k<=out.length/\kpos long x out k=kpos long x out out.length) (fun k=>k) out.length ⟨Nat.le_refl _,rfl⟩ ?_ ?_
  ·simp only [go_sem,seval,hole_top]<;>simp
  rintro k ⟨hk,hK⟩
  have hhl:=hole_len (x:=x) hk;rcases Nat.eq_zero_or_pos k with rfl | hpos
  ·have hfin:=hole_fin (x:=x) hk;have hins:insB long x out=out.take 0++x :: out.drop 0:=by rw [insB,<- hK];rfl
   rw [hins,<- hfin] at hI;have hI2:ordG long ((hole x out 0).set 0 x) (l.drop (i+1))=ordL long l/\((hole x out 0).set 0 x).length=i+1:=⟨hI,by rw [List.length_set,hhl];omega⟩
   have hmz:=map_at (c:=BidV.cells) (hole x out 0) (i:=0) (by omega);simp only [BidV.cells] at hmz;simp only [go_sem,seval];(with_reducible and_intros)<;>first|exact .dq|omega|skip
   refine WeakK.id ?_;simp only [go_sem,seval,hm,lml,hhl,hwi];(with_reducible and_intros)<;>first|exact .dq|omega|skip
   all_goals first
    | omega
    | (refine RoundK.step ((hole x out 0).set 0 x) hi hI2 ?_
       simp only [go_sem,seval,List.map_set,hmz])
  ·obtain ⟨j,rfl⟩:∃ j,k=j+1:=⟨k-1,by omega⟩
   have hj:j < (hole x out (j+1)).length:=by omega
   have hmj:=map_at (c:=BidV.cells) (hole x out (j+1)) hj;have hset:=hole_set (x:=x) hk;rw [hole_at hk] at hmj;have hgd:out.getD j ⟨0,0,0,0,0⟩=out[j]:=by simp [show j < out.length by omega]
   simp only [kpos,hgd] at hK;obtain ⟨y,hy⟩:=nmE (out[j]'(by omega));rw [<- hy] at hmj hset hK;have hA:=hA x y;have hd0:decide (0 < ((j+1:Nat):Int))=true:=decide_eq_true (by omega);have hw1:IntKind.wrap .i64 (((j+1:Nat):Int)-1)=(j:Int):=by rw [wr64 (by omega) (by omega)];omega
   have hmz:=map_at (c:=BidV.cells) (hole x out (j+1)) (i:=j+1) (by omega);simp only [BidV.cells] at hmj hA hmz;simp only [go_sem,seval,hd0,hm,lml,hhl,hw1,hmj];(with_reducible and_intros)<;>first|exact .dq|omega|skip
   refine CallN.pure hA ?_;cases q:ahead long x y
   ·rw [q] at hK;have hfin:=hole_fin (x:=x) hk;have hins:insB long x out=out.take (j+1)++x :: out.drop (j+1):=by rw [insB,<- hK];rfl
    rw [hins,<- hfin] at hI;have hI2:ordG long ((hole x out (j+1)).set (j+1) x) (l.drop (i+1))=ordL long l/\((hole x out (j+1)).set (j+1) x).length=i+1:=⟨hI,by rw [List.length_set,hhl];omega⟩
    simp only [go_sem,seval,q];(with_reducible and_intros)<;>first|exact .dq|omega|skip
    refine WeakK.id ?_;simp only [go_sem,seval,hm,lml,hhl,hwi];(with_reducible and_intros)<;>first|exact .dq|omega|skip
    all_goals first
     | omega
     | (refine RoundK.step ((hole x out (j+1)).set (j+1) x) hi hI2 ?_
        simp only [go_sem,seval,List.map_set,hmz])
   ·rw [q,if_pos rfl] at hK;simp only [go_sem,seval,q,hm,lml,hhl,hw1,hmj];(with_reducible and_intros)<;>first|exact .dq|omega|skip
    all_goals first
     | omega
     | (refine ⟨j,⟨by omega,hK⟩,?_,by show j < j+1;omega⟩
        simp only [go_sem,seval,List.map_set,<- hset,hmz])
 ·rintro out hdx ⟨hI,hol⟩
  rw [List.drop_length] at hI;have hI:out=ordL long l:=hI;simp only [go_sem,seval,lml,hdx,<- hI]
theorem refOrder_spec (long:Bool) (l:List BidV) (hl:l.length < 2 ^ 29):Abs.Spec Tryz.prog 343 [] [.bool long,.sl 5 (l.map BidV.cells)] [] (.sl 5 ((ordL long l).map BidV.cells)):=by
 refine Spec.frozen (refOrder_own long l hl) [0] rfl ?_;intro r;rcases r with _ | r<;>rfl
def bidIn (b:BidV):Bool:=within b.qty 1 1048576&&within b.price 1 1073741824
def fillG:Int->List BidV->List FillV × Int
 | left,[]=>([],left)
 | left,b :: r=>if 0 < left then (⟨b.src,min left b.qty,b.price⟩ :: (fillG (left-min left b.qty) r).1,(fillG (left-min left b.qty) r).2) else ([],left)
def fillE (q:Int) (l:List BidV):Int:=if within q (-1099511627776) 1099511627776&&l.all bidIn then 0 else 3
def fillR (q:Int) (l:List BidV):List FillV × Int:=if fillE q l=0 then fillG (max q (-q)) (ordL (decide (0 < q)) l) else ([],0)
theorem fillG_len:∀ (l:List BidV) (left:Int),(fillG left l).1.length<=l.length
 | [],_=>Nat.le_refl _
 | b :: r,left=>by
  simp only [fillG];split
  ·have:=fillG_len r (left-min left b.qty);simp only [List.length_cons];omega
  ·simp
theorem refFill_own (q:Int) (l:List BidV) (hl:l.length < 2 ^ 28):Abs.Spec Tryz.prog 322 [] [.int .i64 q,.sl 5 (l.map BidV.cells)] [.own 3 ((fillR q l).1.map FillV.cells)] (.tup [.ref 0,.int .i64 (fillR q l).2,.int .i64 (fillE q l)]):=by
 have c1:=within19_spec q (-1099511627776) 1099511627776;have c2:=refOrder_spec (decide (0 < q)) l (by omega);have hol:(ordL (decide (0 < q)) l).length=l.length:=by rw [ordL,ordG_len];simp
 refine sgo 83 2 [.tmp 4,.tmp 5,.tmp 6] mixed Tryz.func322 ?_;simp only [go_sem,seval];refine CallN.pure c1 ?_;cases b1:within q (-1099511627776) 1099511627776
 ·have e:fillE q l=3:=by simp [fillE,b1]
  simp only [go_sem,seval,fillR,e]<;>simp
 have e:fillE q l=if l.all bidIn then 0 else 3:=by simp [fillE,b1]
 have hq:-1099511627776<=q/\q<=1099511627776:=by simpa [within] using b1
 simp only [fillR];rw [e];clear e c1;simp only [go_sem,seval,lml];refine LoopK.walk (S:=Unit) l.length [0,1] [] (fun i _=>[(7,.int .i64 i)]) (fun _ _=>[]) (fun i _=>(l.drop i).all bidIn=l.all bidIn) () rfl ?_ ?_ ?_
 ·simp only [go_sem,seval]<;>simp
 ·intro i _ hi hdi hwi hI;have hm:=map_at (c:=BidV.cells) l hi;have hli:(i:Int) < (l.length:Int):=by omega
  obtain ⟨x,hx⟩:=nmE (l[i]);have k1:=within19_spec x.qty 1 1048576;have k2:=within19_spec x.price 1 1073741824;rw [drop_at hi,<- hx] at hI;rw [<- hx] at hm;simp only [List.all_cons,bidIn] at hI;simp only [BidV.cells] at hm;clear c2;simp only [go_sem,seval,lml,hdi,hm];(with_reducible and_intros)<;>first|exact .dq|omega|skip
  refine CallN.pure k1 ?_;cases q1:within x.qty 1 1048576
  ·rw [q1,Bool.false_and,Bool.false_and] at hI;have hI':l.all bidIn=false:=hI.symm;simp only [go_sem,seval,q1,hI']<;>simp
  simp only [go_sem,seval,q1,lml,hm];(with_reducible and_intros)<;>first|exact .dq|omega|skip
  refine CallN.pure k2 ?_;cases q2:within x.price 1 1073741824
  ·rw [q1,q2,Bool.and_false,Bool.false_and] at hI;have hI':l.all bidIn=false:=hI.symm;simp only [go_sem,seval,q2,hI']<;>simp
  rw [q1,q2,Bool.and_self,Bool.true_and] at hI;simp only [go_sem,seval,q2,hwi];refine RoundK.step () hi hI ?_;simp only [go_sem,seval]
 intro _ hdx hI;rw [List.drop_length] at hI;have hI:l.all bidIn=true:=hI.symm
 have hord:∀ b∈ordL (decide (0 < q)) l,bidIn b=true:=by
  have key:∀ (long:Bool) (m out:List BidV),(∀ b∈out,bidIn b=true)->(∀ b∈m,bidIn b=true)->∀ b∈ordG long out m,bidIn b=true:=by
   intro long m
   induction m with
   | nil=>intro out h1 _;exact h1
   | cons x r ih =>
    intro out h1 h2;refine ih _ ?_ fun b hb=>h2 b (by simp [hb])
    intro b hb;rcases List.mem_append.1 hb with hb | hb
    ·exact h1 b (List.mem_of_mem_take hb)
    ·rcases List.mem_cons.1 hb with rfl | hb
     ·exact h2 b (by simp)
     ·exact h1 b (List.mem_of_mem_drop hb)
  exact key _ l [] (by simp) fun b hb=>List.all_eq_true.1 hI b hb
 rw [hI];clear hI;obtain ⟨o,ho⟩:=nmE (ordL (decide (0 < q)) l);rw [<- ho] at c2 hol hord |-;have hw0:IntKind.wrap .i64 (0-q) = -q:=by rw [wr64 (by omega) (by omega)];omega
 simp only [go_sem,seval,lml,hdx,hw0];(with_reducible and_intros)<;>first|exact .dq|omega|skip
 refine CallN.pure c2 ?_;simp only [go_sem,seval,lml];(with_reducible and_intros)<;>first|exact .dq|omega|skip
 clear c2 hdx;refine LoopK.walk (S:=List FillV × Int) o.length [9] [] (fun i s=>[(11,.int .i64 i),(8,.int .i64 s.2),(10,.ref 1296)]) (fun i s=>[(1296,.own 3 (s.1.map FillV.cells))]) (fun i s=>(s.1++(fillG s.2 (o.drop i)).1=(fillG (max q (-q)) o).1/\(fillG s.2 (o.drop i)).2=(fillG (max q (-q)) o).2)/\s.1.length=i/\(0<=s.2/\s.2<=1099511627776)) ([],max q (-q)) ⟨⟨rfl,rfl⟩,rfl,by omega⟩ ?_ ?_ ?_
 ·simp only [go_sem,seval]<;>simp
 ·rintro i ⟨L,left⟩ hi hdi hwi ⟨⟨h1,h2⟩,h3,h4⟩
  dsimp only at h1 h2 h3 h4;have hm:=map_at (c:=BidV.cells) o hi;have hli:(i:Int) < (o.length:Int):=by omega
  have hxo:=hord _ (List.getElem_mem hi);obtain ⟨x,hx⟩:=nmE (o[i]);rw [drop_at hi,<- hx] at h1 h2;rw [<- hx] at hm hxo;simp only [bidIn,within,bae,decide_eq_true_eq] at hxo;simp only [fillG] at h1 h2;simp only [BidV.cells] at hm
  by_cases q5:0 < left
  ·have d:decide (0 < left)=true:=decide_eq_true q5;rw [if_pos q5] at h1 h2;have hw:IntKind.wrap .i64 (left-min left x.qty)=left-min left x.qty:=wr64 (by omega) (by omega);simp only [go_sem,seval,lml,hdi,hm,d,hw,hwi];(with_reducible and_intros)<;>first|exact .dq|omega|skip
   refine RoundK.step (L++[⟨x.src,min left x.qty,x.price⟩],left-min left x.qty) hi ⟨⟨by rw [List.append_assoc];exact h1,h2⟩,by simp [h3],by dsimp only;omega⟩ ?_;simp only [go_sem,seval]<;>simp
  ·have d:decide (0 < left)=false:=decide_eq_false q5;rw [if_neg q5] at h1 h2;rw [List.append_nil] at h1;simp only [go_sem,seval,lml,hdi,hm,d,if_true,<- h1,<- h2]
   all_goals simp
 ·rintro ⟨L,left⟩ hdx ⟨⟨h1,h2⟩,h3,h4⟩
  dsimp only at h1 h2;rw [List.drop_length] at h1 h2;simp only [fillG,List.append_nil] at h1 h2;simp only [go_sem,seval,lml,hdx,if_true,<- h1,<- h2]
  all_goals simp
def othB (q n:Int) (p:PosV):Bool:=p.inst==n&&((decide (0 < q)&&decide (p.qty < 0))||(decide (q < 0)&&decide (0 < p.qty)))
def othW (q n:Int) (l:List PosV):List Int:=pick (othB q n) PosV.who l
def othN (q n:Int) (l:List PosV):List Int:=pick (othB q n) (fun p=>max p.qty (-p.qty)) l
theorem refOthers_own (b:BookV) (w n:Int) (hb:b.small) (hr:∀ p∈b.qs,-1099511627776<=p.qty/\p.qty<=1099511627776):Abs.Spec Tryz.prog 344 [] [.agg b.cells,.agg [.int .i64 w,.int .i64 n]] [.own 1 (ints (othW (posOf w n b.qs).qty n b.qs)),.own 1 (ints (othN (posOf w n b.qs).qty n b.qs))] (.tup [.ref 0,.ref 1]):=by
 have c1:=refOf11_spec b w n hb;have hbl:=hb.2;obtain ⟨p,hp⟩:=nmE (posOf w n b.qs);rw [<- hp] at c1 |-;simp only [BookV.cells,PosV.cells] at c1 |-;clear hp;refine sgo 68 2 [.tmp 4,.tmp 5] mixed Tryz.func344 ?_;simp only [go_sem,seval];(with_reducible and_intros)<;>first|exact .dq|omega|skip
 refine CallN.pure c1 ?_;simp only [go_sem,seval,lml];(with_reducible and_intros)<;>first|exact .dq|omega|skip
 clear c1;refine LoopK.walk (S:=Unit) b.qs.length [2,3,6] [48,64] (fun i _=>[(9,.int .i64 i),(7,.ref 912),(8,.ref 1056)]) (fun i _=>[(912,.own 1 (ints (othW p.qty n (b.qs.take i)))),(1056,.own 1 (ints (othN p.qty n (b.qs.take i))))]) (fun _ _=>True) () trivial ?_ ?_ ?_
 ·simp only [go_sem,seval]<;>simp [othW,othN,pick,ints]
 ·intro i _ hi hdi hwi _;have hm:=map_at (c:=PosV.cells) b.qs hi;have hs1:ints (othW p.qty n (b.qs.take (i+1)))=ints (othW p.qty n (b.qs.take i))++_:=pickI_step (othB p.qty n) PosV.who hi;have hs2:ints (othN p.qty n (b.qs.take (i+1)))=ints (othN p.qty n (b.qs.take i))++_:=pickI_step (othB p.qty n) (fun p=>max p.qty (-p.qty)) hi;have hl1:(othW p.qty n (b.qs.take i)).length<=(b.qs.take i).length:=pick_len _ _ _;have hl2:(othN p.qty n (b.qs.take i)).length<=(b.qs.take i).length:=pick_len _ _ _;have hlt:(b.qs.take i).length=i:=by simp;omega
  have hli:(i:Int) < (b.qs.length:Int):=by omega
  have hxr:=hr _ (List.getElem_mem hi);obtain ⟨L,hL⟩:=nmE (othW p.qty n (b.qs.take i));obtain ⟨M,hM⟩:=nmE (othN p.qty n (b.qs.take i));obtain ⟨x,hx⟩:=nmE (b.qs[i]);rw [<- hL] at hs1 hl1;rw [<- hM] at hs2 hl2;rw [<- hx] at hs1 hs2 hm hxr;rw [<- hL,<- hM];have hw0:IntKind.wrap .i64 (0-x.qty) = -x.qty:=by rw [wr64 (by omega) (by omega)];omega
  simp only [othB] at hs1 hs2;simp only [PosV.cells] at hm;cases q1:x.inst==n
  ·simp only [q1,Bool.false_and,bfe,if_false,List.append_nil] at hs1 hs2;simp only [go_sem,seval,lml,hdi,hm,q1,hwi];(with_reducible and_intros)<;>first|exact .dq|omega|skip
   refine RoundK.step () hi trivial ?_;simp only [go_sem,seval,hs1,hs2]
  cases q2:decide (0 < p.qty)<;>cases q3:decide (x.qty < 0)<;>cases q4:decide (p.qty < 0)<;>cases q5:decide (0 < x.qty)<;>(
   simp only [q1,q2,q3,q4,q5,Bool.true_and,Bool.false_and,Bool.and_self,Bool.and_false,Bool.or_self,Bool.or_false,Bool.false_or,Bool.or_true,Bool.true_or,bfe,if_false,if_true,List.append_nil] at hs1 hs2;simp only [go_sem,seval,lml,hdi,hm,q1,q2,q3,q4,q5,hw0,hwi,ints_len];(with_reducible and_intros)<;>first|exact .dq|omega|skip
   refine RoundK.step () hi trivial ?_
   simp only [go_sem,seval,hs1,hs2])
 ·intro _ hdx _;simp only [go_sem,seval,lml,hdx,List.take_length]
theorem refOthers_spec (b:BookV) (w n:Int) (hb:b.small) (hr:∀ p∈b.qs,-1099511627776<=p.qty/\p.qty<=1099511627776):Abs.Spec Tryz.prog 344 [] [.agg b.cells,.agg [.int .i64 w,.int .i64 n]] [] (.tup [.sl 1 (ints (othW (posOf w n b.qs).qty n b.qs)),.sl 1 (ints (othN (posOf w n b.qs).qty n b.qs))]):=by
 refine Spec.frozen (refOthers_own b w n hb hr) [0,1] rfl ?_;intro r;rcases r with _ | _ | r<;>rfl
theorem refFill_spec (q:Int) (l:List BidV) (hl:l.length < 2 ^ 28):Abs.Spec Tryz.prog 322 [] [.int .i64 q,.sl 5 (l.map BidV.cells)] [] (.tup [.sl 3 ((fillR q l).1.map FillV.cells),.int .i64 (fillR q l).2,.int .i64 (fillE q l)]):=by
 refine Spec.frozen (refFill_own q l hl) [0] rfl ?_;intro r;rcases r with _ | r<;>rfl
def filIn (f:FillV):Bool:=within f.qty 0 1099511627776&&within f.price 0 1073741824
def sgn (long:Bool) (n:Int):Int:=if long then n else -n
def fleg (w n:Int) (long:Bool) (f:FillV):List PosV:=[⟨f.src,n,sgn long f.qty,sgn long (f.qty*f.price)⟩,⟨w,n,-sgn long f.qty,-sgn long (f.qty*f.price)⟩]
def flegE (l:List FillV):Int:=if l.all filIn then (if l.all fun f=>inR (f.qty*f.price) then 0 else 1) else 3
def flegL (w n:Int) (long:Bool) (l:List FillV):List PosV:=if flegE l=0 then l.flatMap (fleg w n long) else []
theorem refLegs19_own (w n:Int) (long:Bool) (l:List FillV) (hl:l.length < 2 ^ 28):Abs.Spec Tryz.prog 323 [] [.agg [.int .i64 w,.int .i64 n],.bool long,.sl 3 (l.map FillV.cells)] [.own 4 ((flegL w n long l).map PosV.cells)] (.tup [.ref 0,.int .i64 (flegE l)]):=by
 simp only [flegL];refine sgo 86 3 [.tmp 6,.tmp 7] mixed Tryz.func323 ?_;simp only [go_sem,seval,lml];refine LoopK.walk (S:=Unit) l.length [1,2,3] [64] (fun i _=>[(8,.int .i64 i)]) (fun _ _=>[]) (fun i _=>(l.drop i).all filIn=l.all filIn) () rfl ?_ ?_ ?_
 ·simp only [go_sem,seval]<;>simp
 ·intro i _ hi hdi hwi hI;have hm:=map_at (c:=FillV.cells) l hi;have hli:(i:Int) < (l.length:Int):=by omega
  obtain ⟨x,hx⟩:=nmE (l[i]);have k1:=within19_spec x.qty 0 1099511627776;have k2:=within19_spec x.price 0 1073741824;rw [drop_at hi,<- hx] at hI;rw [<- hx] at hm;simp only [List.all_cons,filIn] at hI;simp only [FillV.cells] at hm;simp only [go_sem,seval,lml,hdi,hm];(with_reducible and_intros)<;>first|exact .dq|omega|skip
  refine CallN.pure k1 ?_;cases q1:within x.qty 0 1099511627776
  ·rw [q1,Bool.false_and,Bool.false_and] at hI;have hI':flegE l=3:=by simp only [flegE];rw [show l.all filIn=false from hI.symm];rfl
   simp only [go_sem,seval,q1,hI']<;>simp
  simp only [go_sem,seval,q1,lml,hm];(with_reducible and_intros)<;>first|exact .dq|omega|skip
  refine CallN.pure k2 ?_;cases q2:within x.price 0 1073741824
  ·rw [q1,q2,Bool.and_false,Bool.false_and] at hI;have hI':flegE l=3:=by simp only [flegE];rw [show l.all filIn=false from hI.symm];rfl
   simp only [go_sem,seval,q2,hI']<;>simp
  rw [q1,q2,Bool.and_self,Bool.true_and] at hI;simp only [go_sem,seval,q2,hwi];refine RoundK.step () hi hI ?_;simp only [go_sem,seval]
 intro _ hdx hI;rw [List.drop_length] at hI;have hI:l.all filIn=true:=hI.symm;have hall:∀ f∈l,filIn f=true:=List.all_eq_true.1 hI;have e:flegE l=if l.all fun f=>inR (f.qty*f.price) then 0 else 1:=by simp [flegE,hI]
 rw [e];clear e hI;simp only [go_sem,seval,lml,hdx];clear hdx;refine LoopK.walk (S:=Unit) l.length [1,2,3] [64] (fun i _=>[(10,.int .i64 i),(9,.ref 1360)]) (fun i _=>[(1360,.own 4 (((l.take i).flatMap (fleg w n long)).map PosV.cells))]) (fun i _=>((l.drop i).all fun f=>inR (f.qty*f.price))=l.all fun f=>inR (f.qty*f.price)) () rfl ?_ ?_ ?_
 ·simp only [go_sem,seval]<;>simp
 ·intro i _ hi hdi hwi hI;have hm:=map_at (c:=FillV.cells) l hi;have hli:(i:Int) < (l.length:Int):=by omega
  have hs:=fm_step (fleg w n long) hi;have hnl:=fm_len (f:=fleg w n long) (m:=2) (fun f=>by simp [fleg]) (l.take i);have hlt:(l.take i).length=i:=by simp;omega
  have hxo:=hall _ (List.getElem_mem hi);obtain ⟨L,hL⟩:=nmE ((l.take i).flatMap (fleg w n long));obtain ⟨x,hx⟩:=nmE (l[i]);rw [<- hL] at hs hnl |-;rw [drop_at hi,<- hx,List.all_cons] at hI;rw [<- hx] at hs hm hxo;simp only [filIn,within,bae,decide_eq_true_eq] at hxo;have c1:=refMul_spec x.qty x.price ⟨by omega,by omega⟩ ⟨by omega,by omega⟩;simp only [fleg] at hs;obtain ⟨C,hC⟩:=nmE (x.qty*x.price);rw [<- hC] at c1 hI hs;simp only [FillV.cells] at hm;simp only [go_sem,seval,lml,hdi,hm];(with_reducible and_intros)<;>first|exact .dq|omega|skip
  refine CallN.pure c1 ?_;cases q1:inR C
  ·rw [q1,Bool.false_and] at hI;rw [<- hI];simp only [go_sem,seval,q1]
   all_goals simp
  have hCr:=inR_iff.1 q1;rw [q1,Bool.true_and] at hI;have w1:IntKind.wrap .i64 (0-x.qty) = -x.qty:=by rw [wr64 (by omega) (by omega)];omega
  have w2:IntKind.wrap .i64 (0-C) = -C:=by rw [wr64 (by omega) (by omega)];omega
  have w3:IntKind.wrap .i64 (0 - -x.qty) = - -x.qty:=by rw [wr64 (by omega) (by omega)];omega
  have w4:IntKind.wrap .i64 (0 - -C) = - -C:=by rw [wr64 (by omega) (by omega)];omega
  cases long
  ·simp only [sgn,bfe,if_false] at hs;simp only [go_sem,seval,q1,lml,hm,w1,w2,w3,w4,hwi,if_true];(with_reducible and_intros)<;>first|exact .dq|omega|skip
   refine RoundK.step () hi hI ?_;simp only [go_sem,seval,hs]<;>simp
  ·simp only [sgn,if_true] at hs;simp only [go_sem,seval,q1,lml,hm,w1,w2,w3,w4,hwi,if_true];(with_reducible and_intros)<;>first|exact .dq|omega|skip
   refine RoundK.step () hi hI ?_;simp only [go_sem,seval,hs]<;>simp
 ·intro _ hdx hI;rw [List.drop_length] at hI;rw [<- hI];simp only [go_sem,seval,lml,hdx,List.take_length];(with_reducible and_intros)<;>first|exact .dq|omega|skip
  all_goals simp
theorem refLegs19_spec (w n:Int) (long:Bool) (l:List FillV) (hl:l.length < 2 ^ 28):Abs.Spec Tryz.prog 323 [] [.agg [.int .i64 w,.int .i64 n],.bool long,.sl 3 (l.map FillV.cells)] [] (.tup [.sl 4 ((flegL w n long l).map PosV.cells),.int .i64 (flegE l)]):=by
 refine Spec.frozen (refLegs19_own w n long l hl) [0] rfl ?_;intro r;rcases r with _ | r<;>rfl
theorem refGreedy_spec (t:Int) (l:List Int) (hl:l.length < 2 ^ 30):Abs.Spec Tryz.prog 304 [] [.int .i64 t,.sl 1 (ints l)] [] (.tup [.sl 1 (ints (if greE t l=0 then greL t l else [])),.int .i64 (if greE t l=0 then greT t l else 0),.int .i64 (greE t l)]):=by
 refine Spec.frozen (refGreedy_own t l hl) [0] rfl ?_;intro r;rcases r with _ | r<;>rfl
def fallE (c loss:Int) (caps:List Int):Int:=if (within c 0 2&&caps.length==5)&&(within loss 0 4611686018427387904&&greE loss caps==0) then 0 else 3
def fallOf (c loss rest:Int) (g:List Int):FallV:=⟨c,loss,g.getD 0 0,g.getD 1 0,g.getD 2 0,g.getD 3 0,g.getD 4 0,rest⟩
def fallR (c loss:Int) (caps:List Int):FallV:=if fallE c loss caps=0 then fallOf c loss (greT loss caps) (greL loss caps) else ⟨0,0,0,0,0,0,0,0⟩
theorem greL_len:∀ (l:List Int) (t:Int),(greL t l).length=l.length
 | [],_=>rfl
 | c :: r,t=>by simp only [greL,List.length_cons,greL_len r]
def chg5 (g:List Int) (i:Nat):List D:=[.int .i64 (if 0 < i then g.getD 0 0 else 0),.int .i64 (if 1 < i then g.getD 1 0 else 0),.int .i64 (if 2 < i then g.getD 2 0 else 0),.int .i64 (if 3 < i then g.getD 3 0 else 0),.int .i64 (if 4 < i then g.getD 4 0 else 0)]
theorem refFall_spec (c loss:Int) (caps:List Int) (hl:caps.length < 2 ^ 30):Abs.Spec Tryz.prog 249 [] [.int .i64 c,.int .i64 loss,.sl 1 (ints caps)] [] (.tup [.agg (fallR c loss caps).cells,.int .i64 (fallE c loss caps)]):=by
 have c1:=refCur_spec c;have c2:=within19_spec loss 0 4611686018427387904;have c3:=refGreedy_spec loss caps hl;refine sgo 53 3 [.cell 6 173,.tmp 7] mixed Tryz.func249 ?_;simp only [go_sem,seval];(with_reducible and_intros)<;>first|exact .dq|omega|skip
 refine CallN.pure c1 ?_;cases b1:within c 0 2
 ·have e:fallE c loss caps=3:=by simp [fallE,b1]
  simp only [go_sem,seval,fallR,e,FallV.cells]<;>simp
 by_cases b2:caps.length=5
 case neg =>
  have d:(((caps.length:Nat):Int)==5)=false:=by simp;omega
  have e:fallE c loss caps=3:=by simp [fallE,b2]
  simp only [go_sem,seval,ints_len,bne,d,fallR,e,FallV.cells]<;>simp
 have d2:(((caps.length:Nat):Int)==5)=true:=by simp;omega
 simp only [go_sem,seval,ints_len,bne,d2];(with_reducible and_intros)<;>first|exact .dq|omega|skip
 refine CallN.pure c2 ?_;cases b3:within loss 0 4611686018427387904
 ·have e:fallE c loss caps=3:=by simp [fallE,b3]
  simp only [go_sem,seval,fallR,e,FallV.cells]<;>simp
 simp only [go_sem,seval];(with_reducible and_intros)<;>first|exact .dq|omega|skip
 refine CallN.pure c3 ?_
 by_cases b4:greE loss caps=0
 case neg =>
  have d:(greE loss caps==0)=false:=by simpa using b4
  have e:fallE c loss caps=3:=by simp [fallE,d]
  rw [if_neg b4,if_neg b4];simp only [go_sem,seval,bne,d,fallR,e,FallV.cells]<;>simp
 have e:fallE c loss caps=0:=by simp [fallE,b1,b2,b3,b4]
 have hgl:(greL loss caps).length=5:=by rw [greL_len,b2]
 simp only [fallR,e,if_true];rw [b4,if_pos rfl,if_pos rfl];obtain ⟨g,hg⟩:=nmE (greL loss caps);obtain ⟨T,hT⟩:=nmE (greT loss caps);rw [<- hg] at hgl |-;rw [<- hT];clear hg hT c1 c2 c3 e;simp only [go_sem,seval];(with_reducible and_intros)<;>first|exact .dq|omega|skip
 refine LoopK.walk (S:=Unit) 5 [6,8,11] [112] (fun i _=>[(12,.int .i64 i)]) (fun i _=>[(192,.box ([.int .i64 c,.int .i64 loss]++chg5 g i++[.int .i64 T]))]) (fun _ _=>True) () trivial ?_ ?_ ?_
 ·simp only [go_sem,seval,chg5]<;>simp
 ·intro i _ hi hdi hwi _;have hdi:decide ((i:Int) < 5)=true:=hdi;have hi':i < g.length:=by omega
  have hm:=ints_at g hi';have hg:g[i]=g.getD i 0:=by simp [hi']
  rw [hg] at hm;have hli:(i:Int) < (g.length:Int):=by omega
  obtain rfl | rfl | rfl | rfl | rfl:i=0\/i=1\/i=2\/i=3\/i=4:=by omega
  all_goals
   simp only [chg5,List.cons_append,List.nil_append];simp only [go_sem,seval,hdi,ints_len,hm,hwi];(with_reducible and_intros)<;>first|exact .dq|omega|skip
   refine RoundK.step () hi trivial ?_;simp only [go_sem,seval,chg5]
   all_goals rfl
 ·intro _ hdx _;simp only [go_sem,seval,chg5,fallOf,FallV.cells]
  all_goals simp
theorem wd_less (X Y:Int):(X / 18446744073709551616 < Y / 18446744073709551616\/(X / 18446744073709551616=Y / 18446744073709551616/\X%18446744073709551616 < Y%18446744073709551616)) ↔ X < Y:=by omega
theorem refLess01_spec (X Y:Int):Abs.Spec Tryz.prog 357 [] [.agg (wd X),.agg (wd Y)] [] (.bool (decide (X < Y))):=by
 have h:=wd_less X Y;simp only [wd];refine sgo 24 2 [.tmp 4] mixed Tryz.func357 ?_;obtain ⟨a,ha⟩:=nmE (X / 18446744073709551616);obtain ⟨b,hb⟩:=nmE (Y / 18446744073709551616);obtain ⟨c,hc⟩:=nmE (X%18446744073709551616);obtain ⟨d,hd⟩:=nmE (Y%18446744073709551616);rw [<- ha,<- hb,<- hc,<- hd] at h;rw [<- ha,<- hb,<- hc,<- hd];clear ha hb hc hd
 have he:decide (X < Y)=(decide (a < b)||(a==b&&decide (c < d))):=by
  rw [Bool.eq_iff_iff];simp only [decide_eq_true_eq,Bool.or_eq_true,bae,beq_iff_eq];exact h.symm
 rw [he];clear he h;cases q1:decide (a < b)
 ·cases q2:a==b
  ·simp only [go_sem,seval,q1,q2,Bool.false_or,Bool.false_and]
   all_goals (with_reducible and_intros)<;>first|exact .dq|omega|skip
  ·simp only [go_sem,seval,q1,q2,Bool.false_or,Bool.true_and]
   all_goals (with_reducible and_intros)<;>first|exact .dq|omega|skip
 ·simp only [go_sem,seval,q1,Bool.true_or]
  all_goals (with_reducible and_intros)<;>first|exact .dq|omega|skip
theorem add_top (X Y:Int) (h:-42535295865117307932921825928971026432<=X/\X<=42535295865117307932921825928971026432) (h':-42535295865117307932921825928971026432<=Y/\Y<=42535295865117307932921825928971026432) :
  IntKind.wrap .i64 ((X / 18446744073709551616%18446744073709551616+Y / 18446744073709551616%18446744073709551616+(X%18446744073709551616+Y%18446744073709551616+0) / 18446744073709551616)%18446744073709551616)=(X+Y) / 18446744073709551616:=by
 have h1:=mid_add X Y;rw [h1];obtain ⟨z,hz⟩:=nmE ((X+Y) / 18446744073709551616);have hzr:-9223372036854775808<=z/\z < 9223372036854775808:=by omega
 rw [<- hz,IntKind.wrap_i64];omega
theorem sign_add (X Y:Int):((decide (X / 18446744073709551616 < 0) != decide (Y / 18446744073709551616 < 0))||(decide ((X+Y) / 18446744073709551616 < 0)==decide (X / 18446744073709551616 < 0)))=true:=by
 by_cases h1:X / 18446744073709551616 < 0<;>by_cases h2:Y / 18446744073709551616 < 0
 ·have h3:(X+Y) / 18446744073709551616 < 0:=by omega
  simp [h1,h2,h3]
 ·simp [h1,h2]
 ·simp [h1,h2]
 ·have h3:¬ (X+Y) / 18446744073709551616 < 0:=by omega
  simp [h1,h2,h3]
theorem refAdd01_spec (X Y:Int) (h:-42535295865117307932921825928971026432<=X/\X<=42535295865117307932921825928971026432) (h':-42535295865117307932921825928971026432<=Y/\Y<=42535295865117307932921825928971026432):Abs.Spec Tryz.prog 366 [] [.agg (wd X),.agg (wd Y)] [] (.tup [.agg (wd (X+Y)),.bool true]):=by
 have hux:IntKind.wrap .u64 (X / 18446744073709551616)=(X / 18446744073709551616)%18446744073709551616:=IntKind.wrap_u64 _;have huy:IntKind.wrap .u64 (Y / 18446744073709551616)=(Y / 18446744073709551616)%18446744073709551616:=IntKind.wrap_u64 _;have e1:=add_lo X Y;have e2:=add_top X Y h h';have e3:=sign_add X Y;obtain ⟨p,hp⟩:=nmE (decide (X / 18446744073709551616 < 0));obtain ⟨q,hq⟩:=nmE (decide (Y / 18446744073709551616 < 0));obtain ⟨s,hs⟩:=nmE (decide ((X+Y) / 18446744073709551616 < 0));rw [<- hp,<- hq,<- hs] at e3;simp only [wd];refine sgo 50 2 [.cell 4 110,.tmp 5] mixed Tryz.func366 ?_;simp only [go_sem,seval];refine CallN.sem rfl ?_
 with_reducible refine SemK.add64 (k:=154) (fn:=Tryz.f154) (i:=X%18446744073709551616) (j:=Y%18446744073709551616) (m:=0) ?_ Tryz.func154 ?_ ?_ add_next add_find ?_ ?_ ?_ ?_ ?_ ?_ ?_ ?_ ?_
 iterate 11 (first | rfl | omega)
 simp only [go_sem,seval,hux,huy];refine CallN.sem rfl ?_
 with_reducible refine SemK.add64 (k:=154) (fn:=Tryz.f154) (i:=X / 18446744073709551616%18446744073709551616) (j:=Y / 18446744073709551616%18446744073709551616) (m:=(X%18446744073709551616+Y%18446744073709551616+0) / 18446744073709551616) ?_ Tryz.func154 ?_ ?_ add_next add_find ?_ ?_ ?_ ?_ ?_ ?_ ?_ ?_ ?_
 iterate 11 (first | rfl | omega)
 simp only [go_sem,seval,e1,e2,<- hp,<- hq,<- hs];cases p<;>cases q<;>cases s<;>(try (exact absurd e3 (by decide)))
 all_goals simp only [go_sem,seval,bne,beq_self_eq_true,Bool.not_true]
 all_goals (with_reducible and_intros)<;>first|exact .dq|omega|skip
 all_goals (rw [<- hs,<- hp];rfl)
theorem shl1i (h:Int) (h0:0<=h) (h1:h < 4611686018427387904):ishl .i64 h 1=2*h:=by
 unfold ishl;have h2:min (Int.toNat 1) (IntKind.bits .i64)=1:=by simp [IntKind.bits]
 rw [h2,IntKind.wrap_i64];omega
theorem or1i (h c:Int) (h0:0<=h) (h1:h < 4611686018427387904) (hc:0<=c/\c<=1):ior .i64 (2*h) c=2*h+c:=by
 obtain ⟨n,rfl⟩:∃ n:Nat,h=n:=⟨h.toNat,by omega⟩
 obtain ⟨m,rfl⟩:∃ m:Nat,c=m:=⟨c.toNat,by omega⟩
 unfold ior;rw [BitVec.toNat_or,BitVec.toNat_ofInt,BitVec.toNat_ofInt];simp only [IntKind.bits];have e1:((2*(n:Int))%((2 ^ 64:Nat):Int)).toNat=2 ^ 1*n:=by omega
 have e2:((m:Int)%((2 ^ 64:Nat):Int)).toNat=m:=by omega
 rw [e1,e2,<- Nat.two_pow_add_eq_or_of_lt (by omega:m < 2 ^ 1),IntKind.wrap_i64];omega
theorem shl1u (l:Int) (h0:0<=l):ishl .u64 l 1=l*2%18446744073709551616:=by
 unfold ishl;have h2:min (Int.toNat 1) (IntKind.bits .u64)=1:=by simp [IntKind.bits]
 rw [h2,IntKind.wrap_u64];rfl
theorem shr63u (l:Int) (h0:0<=l):ishr .u64 l 63=l / 9223372036854775808:=by
 have:=shrN l.toNat 63 (by omega);rw [Int.toNat_of_nonneg h0] at this;have e:((63:Nat):Int)=63:=rfl;rw [e] at this;rw [this];have e2:(2:Nat) ^ 63=9223372036854775808:=by decide
 rw [e2];omega
def bigS (s:Int):Bool:=decide (4611686018427387904<=s / 18446744073709551616)
def sftV:Nat->Int->Int
 | 0,s=>s
 | k+1,s=>if bigS s then s else sftV k (2*s)
def sftE:Nat->Int->Bool
 | 0,_=>true
 | k+1,s=>if bigS s then false else sftE k (2*s)
theorem sftE_true:∀ {k:Nat} {s:Int},sftE k s=true->sftV k s=s*2 ^ k
 | 0,s,_=>by simp [sftV]
 | k+1,s,h=>by
  simp only [sftE] at h;split at h
  ·cases h
  ·rename_i hb;simp only [sftV,if_neg hb];rw [sftE_true h,Int.mul_comm 2 s,Int.mul_assoc,Int.pow_succ,Int.mul_comm 2]
theorem sftE_false:∀ {k:Nat} {s:Int},0<=s->sftE k s=false->85070591730234615865843651857942052864<=s*2 ^ k
 | 0,s,_,h=>by cases h
 | k+1,s,h0,h=>by
  simp only [sftE] at h;split at h
  ·rename_i hb;simp only [bigS,decide_eq_true_eq] at hb;have h3:1<=(2:Nat) ^ (k+1):=Nat.one_le_two_pow
   have h1:(1:Int)<=2 ^ (k+1):=by
    have e:((2 ^ (k+1):Nat):Int)=(2:Int) ^ (k+1):=by push_cast;rfl
    rw [<- e];omega
   have h2:s*1<=s*2 ^ (k+1):=Int.mul_le_mul_of_nonneg_left h1 h0;omega
  ·have:=sftE_false (k:=k) (s:=2*s) (by omega) h;rw [Int.pow_succ,<- Int.mul_assoc,Int.mul_comm (s*2 ^ k) 2,<- Int.mul_assoc];exact this
theorem shift_hi (s:Int) (h0:0<=s) (h1:s / 18446744073709551616 < 4611686018427387904):2*(s / 18446744073709551616)+s%18446744073709551616 / 9223372036854775808=2*s / 18446744073709551616:=by omega
theorem shift_lo (s:Int):s%18446744073709551616*2%18446744073709551616=2*s%18446744073709551616:=by omega
theorem refShift_spec (X:Int) (k:Nat) (h0:0<=X) (hk:k < 100) (hX:X < 170141183460469231731687303715884105728):Abs.Spec Tryz.prog 365 [] [.agg (wd X),.int .i64 k] [] (.tup [.agg (wd (sftV k X)),.bool (sftE k X)]):=by
 simp only [wd];refine sgo 29 2 [.cell 4 110,.tmp 5] mixed Tryz.func365 ?_;simp only [go_sem,seval];refine LoopK.walk (S:=Int) k [1,2,4] [80] (fun i _=>[(6,.int .i64 i)]) (fun _ s=>[(48,.box [.int .i64 (s / 18446744073709551616),.int .u64 (s%18446744073709551616)])]) (fun i s=>(sftV (k-i) s=sftV k X/\sftE (k-i) s=sftE k X)/\0<=s/\s < 170141183460469231731687303715884105728) X ⟨⟨rfl,rfl⟩,h0,hX⟩ ?_ ?_ ?_
 ·simp only [go_sem,seval]<;>simp
 ·rintro i s hi hdi hwi ⟨⟨h1,h2⟩,h3,h4⟩
  obtain ⟨m,hm⟩:∃ m,k-i=m+1:=⟨k-i-1,by omega⟩
  have hm2:k-(i+1)=m:=by omega
  rw [hm] at h1 h2;simp only [sftV,sftE] at h1 h2;cases hb:bigS s
  case true =>
   have d:decide (4611686018427387904<=s / 18446744073709551616)=true:=hb;rw [hb,if_pos rfl] at h1 h2;rw [<- h1,<- h2];simp only [go_sem,seval,hdi,d]
  have d:decide (4611686018427387904<=s / 18446744073709551616)=false:=hb;have hlt:s / 18446744073709551616 < 4611686018427387904:=by simpa using d
  rw [hb,if_neg (by simp)] at h1 h2;have e1:=shl1i (s / 18446744073709551616) (by omega) hlt;have e2:=shr63u (s%18446744073709551616) (by omega);have hcr:0<=s%18446744073709551616 / 9223372036854775808/\s%18446744073709551616 / 9223372036854775808<=1:=by omega
  have e3:IntKind.wrap .i64 (s%18446744073709551616 / 9223372036854775808)=s%18446744073709551616 / 9223372036854775808:=wr64 (by omega) (by omega);have e4:=or1i (s / 18446744073709551616) (s%18446744073709551616 / 9223372036854775808) (by omega) hlt hcr;have e5:=shl1u (s%18446744073709551616) (by omega);rw [shift_lo] at e5;rw [shift_hi s h3 hlt] at e4;simp only [go_sem,seval,hdi,d,e1,e2,e3,e4,e5,hwi];(with_reducible and_intros)<;>first|exact .dq|omega|skip
  refine RoundK.step (2*s) hi ⟨⟨by rw [hm2];exact h1,by rw [hm2];exact h2⟩,by omega,by omega⟩ ?_;simp only [go_sem,seval]
 ·rintro s hdx ⟨⟨h1,h2⟩,h3,h4⟩
  rw [Nat.sub_self] at h1 h2;simp only [sftV,sftE] at h1 h2;rw [<- h1,<- h2];simp only [go_sem,seval,hdx]
theorem pow62:∀ {k:Nat},k<=62->(2:Int) ^ k<=4611686018427387904/\1<=(2:Int) ^ k:=by
 intro k hk;have h1:(2:Nat) ^ k<=2 ^ 62:=Nat.pow_le_pow_right (by decide) hk;have h2:(2:Nat) ^ 62=4611686018427387904:=by decide
 have h3:1<=(2:Nat) ^ k:=Nat.one_le_two_pow;have e:((2 ^ k:Nat):Int)=(2:Int) ^ k:=by push_cast;rfl
 rw [<- e];omega
theorem shl_one {k:Nat} (hk:k<=62):ishl .i64 1 (k:Int)=(2:Int) ^ k:=by
 have h:=pow62 hk;unfold ishl;have h1:min (Int.toNat (k:Int)) (IntKind.bits .i64)=k:=by simp [IntKind.bits];omega
 rw [h1,Int.one_mul];exact wr64 (by omega) (by omega)
theorem refDivide_spec (X Y:Int) (h0:0<=X) (hX:X < 42535295865117307932921825928971026432) (hY:1<=Y) (hY2:Y < 42535295865117307932921825928971026432) (hq:X < Y*9223372036854775808):Abs.Spec Tryz.prog 356 [] [.agg (wd X),.agg (wd Y)] [] (.tup [.int .i64 (X / Y),.agg (wd (X%Y))]):=by
 have cS:=fun k hk=>refShift_spec Y k (by omega) hk (by omega)
 have cL:=fun a b=>refLess01_spec a b
 simp only [wd] at cS cL;simp only [wd];refine sgo 42 2 [.tmp 4,.cell 5 110] mixed Tryz.func356 ?_;simp only [go_sem,seval]
 refine LoopK.walk (S:=Int × Int) 63 [3,5,7] [64,96] (fun i s=>[(8,.int .i64 ((62:Int)-i)),(6,.int .i64 s.1)]) (fun _ s=>[(128,.box [.int .i64 (s.2 / 18446744073709551616),.int .u64 (s.2%18446744073709551616)])])
  (fun i s=>(0<=s.2/\s.2 < Y*2 ^ (63-i))/\s.1*Y+s.2=X/\0<=s.1) (0,X) ⟨⟨h0,hq⟩,by simp,by simp⟩ ?_ ?_ ?_
 ·simp only [go_sem,seval]<;>simp
 ·rintro i ⟨q,r⟩ hi _ _ ⟨⟨h1,h2⟩,h3,h4⟩
  dsimp only at h1 h2 h3 h4;obtain ⟨k,hk⟩:∃ k,62-i=k:=⟨_,rfl⟩
  have hki:(62:Int)-(i:Int)=(k:Int):=by omega
  have hk1:63-i=k+1:=by omega
  have hk2:63-(i+1)=k:=by omega
  have hd:decide (0<=(k:Int))=true:=decide_eq_true (by omega);have hw:IntKind.wrap .i64 ((k:Int)-1)=(62:Int)-((i+1:Nat):Int):=by rw [wr64 (by omega) (by omega)];omega
  have cS:=cS k (by omega);have hone:=shl_one (k:=k) (by omega);have hpw:=pow62 (k:=k) (by omega);obtain ⟨Q,hQ⟩:=nmE ((2:Int) ^ k);rw [hk1,Int.pow_succ,<- hQ] at h2;rw [<- hQ] at hone hpw;obtain ⟨Z,hZ⟩:=nmE (Y*Q);have h2:r < 2*Z:=by rw [hZ];rw [<- Int.mul_assoc] at h2;omega
  have hrX:r<=X:=by
   have:=Int.mul_nonneg h4 (show 0<=Y by omega);omega
  rw [hki];cases hE:sftE k Y
  ·have hbig:=sftE_false (by omega) hE;rw [<- hQ,<- hZ] at hbig;rw [hE] at cS;simp only [go_sem,seval,hd];(with_reducible and_intros)<;>first|exact .dq|omega|skip
   refine CallN.pure cS ?_;simp only [go_sem,seval,hw];(with_reducible and_intros)<;>first|exact .dq|omega|skip
   refine RoundK.step (q,r) hi ⟨⟨h1,by rw [hk2,<- hQ,<- hZ];dsimp only;omega⟩,h3,h4⟩ ?_;simp only [go_sem,seval]
  have hV:=sftE_true hE;rw [<- hQ,<- hZ] at hV;rw [hE,hV] at cS;have cL:=cL r Z;simp only [go_sem,seval,hd];(with_reducible and_intros)<;>first|exact .dq|omega|skip
  refine CallN.pure cS ?_;simp only [go_sem,seval];(with_reducible and_intros)<;>first|exact .dq|omega|skip
  refine CallN.pure cL ?_
  by_cases hl:r < Z
  ·have d:decide (r < Z)=true:=decide_eq_true hl;simp only [go_sem,seval,d,hw];(with_reducible and_intros)<;>first|exact .dq|omega|skip
   refine RoundK.step (q,r) hi ⟨⟨h1,by rw [hk2,<- hQ,<- hZ];exact hl⟩,h3,h4⟩ ?_;simp only [go_sem,seval]
  have d:decide (r < Z)=false:=decide_eq_false hl;have hZ0:0<=Z:=by rw [hZ];exact Int.mul_nonneg (by omega) (by omega)
  have cN:=negI Z (by omega);have cA:=refAdd01_spec r (-Z) (by omega) (by omega);have e1:r + -Z=r-Z:=by omega
  have e2:(q+Q)*Y+(r-Z)=X:=by rw [Int.add_mul,Int.mul_comm Q Y,<- hZ];omega
  have e3:q+Q < 9223372036854775808:=by
   rcases Int.lt_or_le (q+Q) 9223372036854775808 with h | h
   ·exact h
   ·have:=Int.mul_le_mul_of_nonneg_right h (show 0<=Y by omega);rw [Int.mul_comm 9223372036854775808 Y] at this;omega
  have e4:IntKind.wrap .i64 (q+Q)=q+Q:=wr64 (by omega) e3;rw [e1] at cA;simp only [wd] at cN cA;simp only [go_sem,seval,d];(with_reducible and_intros)<;>first|exact .dq|omega|skip
  refine CallN.pure cN ?_;simp only [go_sem,seval];(with_reducible and_intros)<;>first|exact .dq|omega|skip
  refine CallN.pure cA ?_;simp only [go_sem,seval,hone,e4,hw];(with_reducible and_intros)<;>first|exact .dq|omega|skip
  refine RoundK.step (q+Q,r-Z) hi ⟨⟨by dsimp only;omega,by rw [hk2,<- hQ,<- hZ];dsimp only;omega⟩,e2,by dsimp only;omega⟩ ?_;simp only [go_sem,seval]
 ·rintro ⟨q,r⟩ _ ⟨⟨h1,h2⟩,h3,h4⟩
  dsimp only at h1 h2 h3 h4;rw [Nat.sub_self,Int.pow_zero,Int.mul_one] at h2
  have eq:X / Y=q:=by
   rw [<- h3,Int.add_comm,Int.add_mul_ediv_right _ _ (by omega),Int.ediv_eq_zero_of_lt h1 h2];omega
  have er:X%Y=r:=by
   rw [<- h3,Int.add_comm,Int.add_mul_emod_self_right,Int.emod_eq_of_lt h1 h2]
  rw [eq,er];have hx:(62:Int)-((63:Nat):Int) = -1:=by omega
  rw [hx];simp only [go_sem,seval];(with_reducible and_intros)<;>first|exact .dq|omega|skip
def prt (t W:Int) (ws:List Int):List Int:=ws.map fun w=>t*w / W
def rst (t W:Int) (ws:List Int):List Int:=ws.map fun w=>t*w%W
def bstG (rs:List Int) (gs:List Bool):Nat->Int
 | 0=>-1
 | i+1=>if !(gs.getD i true)&&(decide (bstG rs gs i < 0)||decide (rs.getD (bstG rs gs i).toNat 0 < rs.getD i 0)) then (i:Int) else bstG rs gs i
def giveG (rs:List Int):Nat->List Bool->List Int->List Int
 | 0,_,ps=>ps
 | n+1,gs,ps=>giveG rs n (gs.set (bstG rs gs rs.length).toNat true) (ps.set (bstG rs gs rs.length).toNat (ps.getD (bstG rs gs rs.length).toNat 0+1))
def splitE (t:Int) (ws:List Int):Int:=if (!decide (t < 0)&&inR t)&&right ws then (if posB ws then (if 1024 < ws.length then 5 else if sumL ws=0 then (if t=0 then 0 else 2) else 0) else 3) else 3
def splitL (t:Int) (ws:List Int):List Int:=
 if splitE t ws=0 then (if sumL ws=0 then List.replicate ws.length 0 else giveG (rst t (sumL ws) ws) (t-sumL (prt t (sumL ws) ws)).toNat (List.replicate ws.length false) (prt t (sumL ws) ws)) else []
theorem giveG_len (rs:List Int):∀ (n:Nat) (gs:List Bool) (ps:List Int),(giveG rs n gs ps).length=ps.length
 | 0,_,_=>rfl
 | n+1,gs,ps=>by simp only [giveG];rw [giveG_len rs n];simp
theorem splitL_len (t:Int) (ws:List Int):(splitL t ws).length<=ws.length:=by
 unfold splitL;split
 ·split
  ·simp
  ·rw [giveG_len];simp [prt]
 ·simp
theorem bst_range (rs:List Int) (gs:List Bool):∀ i,-1<=bstG rs gs i/\bstG rs gs i < i
 | 0=>by simp [bstG]
 | i+1=>by
  have:=bst_range rs gs i;simp only [bstG];split<;>omega
theorem bst_pos (rs:List Int) (gs:List Bool):∀ i,(∃ j < i,gs.getD j true=false)->0<=bstG rs gs i
 | 0,h=>by obtain ⟨j,hj,_⟩:=h;omega
 | i+1,h=>by
  simp only [bstG];split
  ·omega
  ·rename_i hc;rcases Int.lt_or_le (bstG rs gs i) 0 with hb | hb
   ·have hd:decide (bstG rs gs i < 0)=true:=decide_eq_true hb;rw [hd,Bool.true_or,Bool.and_true] at hc;obtain ⟨j,hj,he⟩:=h;rcases Nat.lt_or_ge j i with h2 | h2
    ·have:=bst_pos rs gs i ⟨j,h2,he⟩;omega
    ·obtain rfl:j=i:=by omega
     rw [he] at hc;exact absurd rfl hc
   ·exact hb
theorem bst_free (rs:List Int) (gs:List Bool):∀ i,0<=bstG rs gs i->gs.getD (bstG rs gs i).toNat true=false
 | 0,h=>by simp [bstG] at h
 | i+1,h=>by
  simp only [bstG] at h |-;split
  ·rename_i hc;simp only [bae,Bool.not_eq_true'] at hc;rw [show ((i:Int)).toNat=i by omega];exact hc.1
  ·rename_i hc;rw [if_neg hc] at h;exact bst_free rs gs i h
theorem free_ex:∀ {gs:List Bool},gs.count true < gs.length->∃ j < gs.length,gs.getD j true=false
 | [],h=>by simp at h
 | b :: r,h=>by
  cases b
  ·exact ⟨0,by simp,rfl⟩
  ·simp only [List.count_cons_self,List.length_cons] at h;obtain ⟨j,hj,he⟩:=free_ex (gs:=r) (by omega);exact ⟨j+1,by simp;omega,by simpa using he⟩
theorem count_set:∀ {gs:List Bool} {j:Nat},gs.getD j true=false->(gs.set j true).count true=gs.count true+1
 | [],j,h=>by simp at h
 | b :: r,0,h=>by
  have h:b=false:=h;subst h;simp
 | b :: r,j+1,h=>by
  have:=count_set (gs:=r) (j:=j) (by simpa using h);simp only [List.set_cons_succ,List.count_cons,this];omega
theorem sum_nonneg:∀ {l:List Int},(∀ x∈l,0<=x)->0<=sumL l
 | [],_=>by simp [sumL]
 | x :: r,h=>by
  have h1:=h x (by simp);have h2:=sum_nonneg (l:=r) fun y hy=>h y (by simp [hy])
  simp only [sumL];omega
theorem sum_mem:∀ {l:List Int},(∀ x∈l,0<=x)->∀ x∈l,x<=sumL l
 | [],_,x,hx=>by cases hx
 | y :: r,h,x,hx=>by
  have h1:=h y (by simp);have h2:=sum_nonneg (l:=r) fun z hz=>h z (by simp [hz])
  simp only [sumL];rcases List.mem_cons.1 hx with rfl | hx
  ·omega
  ·have:=sum_mem (l:=r) (fun z hz=>h z (by simp [hz])) x hx;omega
theorem sum_take:∀ {l:List Int},(∀ x∈l,0<=x)->∀ i,sumL (l.take i)<=sumL l
 | [],_,i=>by simp
 | y :: r,h,0=>by simp only [List.take_zero];exact sum_nonneg h
 | y :: r,h,i+1=>by
  have:=sum_take (l:=r) (fun z hz=>h z (by simp [hz])) i;simp only [List.take_succ_cons,sumL];omega
theorem prt_sum {t W:Int} (hW:1<=W):∀ {l:List Int},(∀ x∈l,0<=t*x)->0<=sumL (prt t W l)/\W*sumL (prt t W l)+sumL (rst t W l)=t*sumL l/\0<=sumL (rst t W l)/\sumL (rst t W l)<=(W-1)*l.length
 | [],_=>by simp [prt,rst,sumL]
 | x :: r,h=>by
  obtain ⟨h1,h2,h3,h4⟩:=prt_sum hW (l:=r) fun y hy=>h y (by simp [hy])
  have h0:=h x (by simp);have a1:=Int.mul_ediv_add_emod (t*x) W;have a2:=Int.emod_nonneg (t*x) (show W≠0 by omega);have a3:=Int.emod_lt_of_pos (t*x) (show 0 < W by omega);have a4:0<=t*x / W:=Int.ediv_nonneg h0 (by omega);have e1:prt t W (x :: r)=(t*x / W) :: prt t W r:=rfl;have e2:rst t W (x :: r)=(t*x%W) :: rst t W r:=rfl;rw [e1,e2];simp only [sumL,List.length_cons];refine ⟨by omega,?_,by omega,?_⟩
  ·rw [Int.mul_add,Int.mul_add];omega
  ·push_cast
   rw [Int.mul_add];omega
theorem left_range {t W:Int} {ws:List Int} (ht:0<=t) (hW:sumL ws=W) (hW1:1<=W) (hw:∀ x∈ws,0<=x):0<=t-sumL (prt t W ws)/\t-sumL (prt t W ws) < ws.length:=by
 obtain ⟨h1,h2,h3,h4⟩:=prt_sum (t:=t) hW1 (l:=ws) fun x hx=>Int.mul_nonneg ht (hw x hx)
 rw [hW,Int.mul_comm t W] at h2;have h5:W*(t-sumL (prt t W ws))=sumL (rst t W ws):=by rw [Int.mul_sub];omega
 have hpos:0 < ws.length:=by
  cases ws with
  | nil=>simp [sumL] at hW;omega
  | cons x r=>simp
 constructor
 ·rcases Int.lt_or_le (t-sumL (prt t W ws)) 0 with h | h
  ·have:=Int.mul_neg_of_pos_of_neg (show 0 < W by omega) h;omega
  ·exact h
 ·rcases Int.lt_or_le (t-sumL (prt t W ws)) ws.length with h | h
  ·exact h
  ·have h6:=Int.mul_le_mul_of_nonneg_left h (show 0<=W by omega);rw [Int.sub_mul] at h4;omega
theorem part_range {t W x:Int} (ht:0<=t) (hW1:1<=W) (h0:0<=x) (hx:x<=W):0<=t*x / W/\t*x / W<=t:=by
 have h1:=Int.mul_nonneg ht h0;refine ⟨Int.ediv_nonneg h1 (by omega),?_⟩;have h2:t*x<=t*W:=Int.mul_le_mul_of_nonneg_left hx ht;have h3:=Int.ediv_le_ediv (show 0 < W by omega) h2;rw [Int.mul_ediv_cancel _ (show W≠0 by omega)] at h3;exact h3
theorem prt_take_le {t W:Int} {ws:List Int} (ht:0<=t) (hW:sumL ws=W) (hW1:1<=W) (hw:∀ x∈ws,0<=x) (i:Nat):0<=sumL (prt t W (ws.take i))/\sumL (prt t W (ws.take i))<=t:=by
 have hw':∀ x∈ws.take i,0<=x:=fun x hx=>hw x (List.mem_of_mem_take hx)
 obtain ⟨h1,h2,h3,h4⟩:=prt_sum (t:=t) hW1 (l:=ws.take i) fun x hx=>Int.mul_nonneg ht (hw' x hx)
 have h5:=sum_take hw i;refine ⟨h1,?_⟩;rcases Int.lt_or_le t (sumL (prt t W (ws.take i))) with h | h
 ·have h6:t*sumL (ws.take i)<=t*W:=Int.mul_le_mul_of_nonneg_left (by omega) ht;have h7:=Int.mul_lt_mul_of_pos_left h (show 0 < W by omega);rw [Int.mul_comm W t] at h7;omega
 ·exact h
def mixZ (f:Int->Int) (ws:List Int) (i:Nat):List Int:=(ws.take i).map f++List.replicate (ws.length-i) 0
theorem mixZ_zero (f:Int->Int) (ws:List Int):mixZ f ws 0=List.replicate ws.length 0:=by simp [mixZ]
theorem mixZ_all (f:Int->Int) (ws:List Int):mixZ f ws ws.length=ws.map f:=by simp [mixZ]
theorem mixZ_len (f:Int->Int) (ws:List Int) {i:Nat} (h:i<=ws.length):(mixZ f ws i).length=ws.length:=by simp [mixZ];omega
theorem mixZ_set (f:Int->Int) {ws:List Int} {i:Nat} (h:i < ws.length):(mixZ f ws i).set i (f ws[i])=mixZ f ws (i+1):=by
 have hl:((ws.take i).map f).length=i:=by simp;omega
 have e:ws.length-i=(ws.length-(i+1))+1:=by omega
 simp only [mixZ];rw [List.set_append_right _ _ (by omega),hl,Nat.sub_self,e,List.replicate_succ,List.set_cons_zero,List.take_succ_eq_append_getElem h,List.map_append,List.append_assoc];rfl
def blsG (gs:List Bool):List (List D):=gs.map fun b=>[.bool b]
theorem blsG_len (gs:List Bool):(blsG gs).length=gs.length:=by simp [blsG]
theorem blsG_at (gs:List Bool) {i:Nat} (h:i < gs.length):(blsG gs).getD i []=[.bool gs[i]]:=by simp [blsG,h]
theorem ints_set (l:List Int) (i:Nat) (v:Int):(ints l).set i [.int .i64 v]=ints (l.set i v):=by simp [ints,List.map_set]
theorem wds_set (l:List Int) (i:Nat) (v:Int):(wds l).set i [.int .i64 (v / 18446744073709551616),.int .u64 (v%18446744073709551616)]=wds (l.set i v):=by simp [wds,wd,List.map_set]
theorem bls_set (l:List Bool) (i:Nat) (v:Bool):(blsG l).set i [.bool v]=blsG (l.set i v):=by simp [blsG,List.map_set]
theorem ints_rep (n:Nat):List.replicate n [D.int .i64 0]=ints (List.replicate n 0):=by simp [ints]
theorem wds_rep (n:Nat):List.replicate n [D.int .i64 0,D.int .u64 0]=wds (List.replicate n 0):=by simp [wds,wd]
theorem bls_rep (n:Nat):List.replicate n [D.bool false]=blsG (List.replicate n false):=by simp [blsG]
theorem refSplit_own (t:Int) (ws:List Int) (hl:ws.length < 2 ^ 30):Abs.Spec Tryz.prog 345 [] [.int .i64 t,.sl 1 (ints ws)] [.own 1 (ints (splitL t ws))] (.tup [.ref 0,.int .i64 (splitE t ws)]):=by
 have c1:=refRight_spec t;have c2:=refAll01_spec ws (by omega);refine sgo 149 2 [.tmp 4,.tmp 5] mixed Tryz.func345 ?_
 by_cases q0:t < 0
 ·have d:decide (t < 0)=true:=decide_eq_true q0;have e:splitE t ws=3:=by simp [splitE,q0]
  simp only [go_sem,seval,d,splitL,e]<;>simp [ints]
 have d0:decide (t < 0)=false:=decide_eq_false q0;simp only [go_sem,seval,d0];refine CallN.pure c1 ?_;cases q1:inR t
 ·have e:splitE t ws=3:=by simp [splitE,q1]
  simp only [go_sem,seval,splitL,e]<;>simp [ints]
 simp only [go_sem,seval];refine CallN.pure c2 ?_;cases q2:right ws
 ·have e:splitE t ws=3:=by simp [splitE,q2]
  simp only [go_sem,seval,splitL,e]<;>simp [ints]
 have e:splitE t ws=if posB ws then (if 1024 < ws.length then 5 else if sumL ws=0 then (if t=0 then 0 else 2) else 0) else 3:=by simp only [splitE,d0,q1,q2];rfl
 simp only [splitL];rw [e];clear e c1 c2;have hin:=fun x hx=>inR_iff.1 (List.all_eq_true.1 q2 x hx)
 have htin:=inR_iff.1 q1;simp only [go_sem,seval,ints_len];refine LoopK.walk (S:=Unit) ws.length [0,1] [] (fun i _=>[(7,.int .i64 i),(6,.ref 768)]) (fun i _=>[(768,.own 2 (wds (ws.take i)))]) (fun i _=>posB (ws.drop i)=posB ws) () rfl ?_ ?_ ?_
 ·simp only [go_sem,seval]<;>simp [wds]
 ·intro i _ hi hdi hwi hI;have hm:=ints_at ws hi;have hli:(i:Int) < (ws.length:Int):=by omega
  have hxr:=hin _ (List.getElem_mem hi);have hnext:wds (ws.take (i+1))=wds (ws.take i)++[wd ws[i]]:=by rw [List.take_succ_eq_append_getElem hi];simp only [wds,List.map_append,List.map_cons,List.map_nil]
  have hlen:(wds (ws.take i)).length=i:=by simp [wds];omega
  obtain ⟨x,hx⟩:=nmE (ws[i]);rw [drop_at hi,<- hx] at hI;rw [<- hx] at hm hxr hnext;have hO:=refOf_spec x ⟨by omega,by omega⟩;have hc:posB (x :: ws.drop (i+1))=(!decide (x < 0)&&posB (ws.drop (i+1))):=rfl;rw [hc] at hI;simp only [wd] at hO hnext
  by_cases q:x < 0
  ·have d:decide (x < 0)=true:=decide_eq_true q;rw [d,Bool.not_true,Bool.false_and] at hI;rw [<- hI];simp only [go_sem,seval,ints_len,hdi,hm,d];(with_reducible and_intros)<;>first|exact .dq|omega|skip
   all_goals simp [ints]
  ·have d:decide (x < 0)=false:=decide_eq_false q;rw [d,Bool.not_false,Bool.true_and] at hI;simp only [go_sem,seval,ints_len,hdi,hm,d];(with_reducible and_intros)<;>first|exact .dq|omega|skip
   refine CallN.pure hO ?_;simp only [go_sem,seval,hwi,hlen];(with_reducible and_intros)<;>first|exact .dq|omega|skip
   refine RoundK.step () hi hI ?_;simp only [go_sem,seval,hnext]
 intro _ hdx hI;rw [List.drop_length] at hI;have hI:posB ws=true:=hI.symm
 have hnn:∀ x∈ws,0<=x:=fun x hx=>by
  have:=List.all_eq_true.1 hI x hx;simp only [Bool.not_eq_true',decide_eq_false_iff_not] at this;omega
 rw [hI];clear hI
 by_cases q4:1024 < ws.length
 ·have d:decide (1024 < (ws.length:Int))=true:=decide_eq_true (by omega);simp only [go_sem,seval,ints_len,hdx,if_pos q4,d];(with_reducible and_intros)<;>first|exact .dq|omega|skip
  all_goals simp [ints]
 have d4:decide (1024 < (ws.length:Int))=false:=decide_eq_false (by omega);have hsr:=sumL_range q2;obtain ⟨hi1,hi2⟩:=in2_sum (l:=ws) (fun n hn=>⟨by have:=hin n hn;omega,by have:=hin n hn;omega⟩) (by omega);have hS:=refSum_spec ws (by omega) hi1;have hs0:=sum_nonneg hnn;have hmem:=sum_mem hnn;have htk:=fun (h:1<=sumL ws) (i:Nat)=>prt_take_le (t:=t) (ws:=ws) (by omega) rfl h hnn i
 have hlr:=fun (h:1<=sumL ws)=>left_range (t:=t) (ws:=ws) (by omega) rfl h hnn
 rw [hi2,if_pos rfl] at hS;obtain ⟨W,hW⟩:=nmE (sumL ws);rw [<- hW] at hS hsr hs0 hmem htk hlr |-;simp only [wd] at hS;simp only [go_sem,seval,ints_len,hdx,if_neg q4,d4,List.take_length];(with_reducible and_intros)<;>first|exact .dq|omega|skip
 refine CallN.gen [] [] true (by simp) ?_;simp only [go_sem,seval];refine CallG.intro hS ?_;clear hS hdx hi1 hi2 d4
 by_cases q5:W=0
 ·rw [q5]
  by_cases q6:t=0
  ·rw [q6];simp only [go_sem,seval,ints_len,if_true,ints_rep];(with_reducible and_intros)<;>first|exact .dq|omega|skip
   all_goals (first | omega | simp [ints])
  ·have d:(t==0)=false:=by simpa using q6
   simp only [go_sem,seval,ints_len,if_true,bne,d,if_neg q6];(with_reducible and_intros)<;>first|exact .dq|omega|skip
   all_goals simp [ints]
 have hW1:1<=W:=by omega
 have htk:=htk hW1;have hlr:=hlr hW1
 have dW:(W / 18446744073709551616==0&&W%18446744073709551616==0)=false:=by
  rw [Bool.and_eq_false_iff];simp only [beq_eq_false_iff_ne];omega
 have hmid:∀ {Q:Prop},((W / 18446744073709551616==0)=false->Q)->((W / 18446744073709551616==0)=true->(W%18446744073709551616==0)=false->Q)->Q:=fun f g=>by
  cases h:W / 18446744073709551616==0
  ·exact f h
  ·exact g h (by rw [h,Bool.true_and] at dW;exact dW)
 simp only [if_neg q5,if_true];obtain ⟨R,hR⟩:=nmE (rst t W ws);obtain ⟨T,hT⟩:=nmE (giveG R (t-sumL (prt t W ws)).toNat (List.replicate ws.length false) (prt t W ws));rw [<- hR,<- hT];have hRl:R.length=ws.length:=by rw [hR];simp [rst]
 have hbst:=bst_range R;refine hmid (fun h=>?_) (fun h h'=>?_)
 all_goals
  simp only [go_sem,seval,h]
  try simp only [go_sem,seval,h']
  (with_reducible and_intros)<;>first|exact .dq|omega|skip
  simp only [go_sem,seval,ints_len,ints_rep,wds_rep];(with_reducible and_intros)<;>first|exact .dq|omega|skip
  try (rw [ints_len];omega)
 all_goals try (rw [ints_len];omega)
 all_goals
  refine LoopK.walk (S:=Unit) ws.length [0,1,8] [144] (fun i _=>[(13,.int .i64 i),(12,.int .i64 (t-sumL (prt t W (ws.take i)))),(10,.ref 176),(11,.ref 192)]) (fun i _=>[(176,.own 1 (ints (mixZ (fun w=>t*w / W) ws i))),(192,.own 2 (wds (mixZ (fun w=>t*w%W) ws i)))]) (fun _ _=>True) () trivial ?_ ?_ ?_
  ·simp only [go_sem,seval,mixZ_zero]<;>simp [prt,sumL,ints_len,ints_rep,wds_rep]
  ·intro i _ hi hdi hwi _;have hm:=ints_at ws hi;have hli:(i:Int) < (ws.length:Int):=by omega
   have hx1:=hin _ (List.getElem_mem hi);have hx2:=hnn _ (List.getElem_mem hi);have hx3:=hmem _ (List.getElem_mem hi);have hp1:=mixZ_len (fun w=>t*w / W) ws (i:=i) (by omega);have hp2:=mixZ_len (fun w=>t*w%W) ws (i:=i) (by omega);have hs1:=mixZ_set (fun w=>t*w / W) hi;have hs2:=mixZ_set (fun w=>t*w%W) hi;have hpi:=htk i;have hpn:=htk (i+1)
   have hpe:sumL (prt t W (ws.take (i+1)))=sumL (prt t W (ws.take i))+t*ws[i] / W:=by
    rw [List.take_succ_eq_append_getElem hi];simp only [prt,List.map_append,List.map_cons,List.map_nil,sumL_app]
   obtain ⟨x,hx⟩:=nmE (ws[i]);rw [<- hx] at hm hx1 hx2 hx3 hs1 hs2 hpe;have hmr:=mul_range (a:=t) (b:=x) (A:=4611686018427387904) (B:=4611686018427387904) (by omega) (by omega);have hm0:=Int.mul_nonneg (show 0<=t by omega) hx2;have hpr:=part_range (t:=t) (W:=W) (x:=x) (by omega) hW1 hx2 hx3
   have hlt:t*x < W*9223372036854775808:=by
    have h1:t*x<=t*W:=Int.mul_le_mul_of_nonneg_left hx3 (by omega);have h2:t*W<=4611686018427387904*W:=Int.mul_le_mul_of_nonneg_right htin.2 (by omega);omega
   have cT:=refTimesI t x ⟨by omega,by omega⟩ ⟨by omega,by omega⟩;have cD:=refDivide_spec (t*x) W hm0 (by omega) hW1 (by omega) hlt;obtain ⟨P,hP⟩:=nmE (t*x / W);obtain ⟨Z,hZ⟩:=nmE (t*x%W);obtain ⟨Y,hY⟩:=nmE (t*x);obtain ⟨S,hS⟩:=nmE (sumL (prt t W (ws.take i)));obtain ⟨A,hA⟩:=nmE (mixZ (fun w=>t*w / W) ws i);obtain ⟨B,hB⟩:=nmE (mixZ (fun w=>t*w%W) ws i);rw [<- hP,<- hZ,<- hY] at cD;rw [<- hY] at cT;rw [<- hP,<- hA] at hs1;rw [<- hZ,<- hB] at hs2;rw [<- hA] at hp1;rw [<- hB] at hp2;rw [<- hP,<- hS] at hpe;rw [<- hS] at hpi;rw [<- hP] at hpr;rw [hpe] at hpn;rw [<- hA,<- hB,<- hS];have hwl:IntKind.wrap .i64 (t-S-P)=t-(S+P):=by rw [wr64 (by omega) (by omega)];omega
   have hsa:∀ V,((ints A).set i [.int .i64 V]).getD i []=[.int .i64 V]:=fun V=>by simp [ints,hp1,hi]
   have hmA:=ints_at A (i:=i) (by omega);have hmB:=wds_at B (i:=i) (by omega);simp only [wd] at cT cD;clear hA hB hP hZ hY hS hmid htk hlr hT hR;simp only [go_sem,seval,ints_len,hdi,hm];(with_reducible and_intros)<;>first|exact .dq|omega|skip
   refine CallN.pure cT ?_;simp only [go_sem,seval];(with_reducible and_intros)<;>first|exact .dq|omega|skip
   refine CallN.pure cD ?_;simp only [go_sem,seval,ints_len,wds_len,hp1,hp2,hmA,hmB];(with_reducible and_intros)<;>first|exact .dq|omega|skip
   all_goals try simp only [go_sem,seval,ints_len,wds_len,hp1,hp2,hmA,hmB,hsa,hwl,hwi,List.length_set]
   all_goals (with_reducible and_intros)<;>first|exact .dq|omega|skip
   all_goals first
    | (simp only [List.length_set,ints_len,wds_len];omega)
    | (refine RoundK.step () hi trivial ?_
       simp only [go_sem,seval,ints_set,wds_set,hs1,hs2,hpe]<;>simp)
  intro _ hdx _;have hP1:ws.map (fun w=>t*w / W)=prt t W ws:=rfl;have hR1:ws.map (fun w=>t*w%W)=R:=hR.symm;have hpl:(prt t W ws).length=ws.length:=by simp [prt]
  have hpv:∀ p∈prt t W ws,0<=p/\p<=4611686018427387904:=fun p hp=>by
   obtain ⟨x,hx,rfl⟩:=List.mem_map.1 hp;have:=part_range (t:=t) (W:=W) (x:=x) (by omega) hW1 (hnn x hx) (hmem x hx);omega
  obtain ⟨n0,hn0⟩:∃ n0:Nat,n0=(t-sumL (prt t W ws)).toNat:=⟨_,rfl⟩
  have hn1:t-sumL (prt t W ws)=(n0:Int):=by omega
  rw [<- hn0] at hT;have hnl:n0 < ws.length:=by omega
  obtain ⟨p0,hp0⟩:=nmE (prt t W ws);rw [<- hp0] at hT hpl hpv;rw [List.take_length,mixZ_all,mixZ_all,hP1,hR1,hn1,<- hp0]
  have hloop:∀ gs:List Bool,gs.count true < gs.length->gs.length=ws.length->0<=bstG R gs ws.length/\bstG R gs ws.length < ws.length/\gs.getD (bstG R gs ws.length).toNat true=false:=fun gs h1 h2=>by
   obtain ⟨j,hj,he⟩:=free_ex h1;have:=bst_pos R gs ws.length ⟨j,by omega,he⟩;exact ⟨this,(hbst gs _).2,bst_free R gs _ this⟩
  clear hmid htk hlr hR hP1 hR1 hp0 hn0 hn1 hin hnn hmem;simp only [go_sem,seval,ints_len,hdx,bls_rep];(with_reducible and_intros)<;>first|exact .dq|omega|skip
  all_goals try (rw [ints_len];omega)
  refine LoopK.over (T:=Nat × List Bool × List Int) [1,11] [192] (fun s=>[(12,.int .i64 (s.1:Nat)),(10,.ref 176),(14,.ref 240)]) (fun s=>[(176,.own 1 (ints s.2.2)),(240,.own 1 (blsG s.2.1))])
   (fun s=>giveG R s.1 s.2.1 s.2.2=T/\s.2.1.length=ws.length/\s.2.2.length=ws.length/\s.2.1.count true+s.1 < ws.length/\∀ p∈s.2.2,0<=p/\p+(s.1:Nat)<=4611686018427387904+(n0:Nat)) (fun s=>s.1) (n0,List.replicate ws.length false,p0) ?_ ?_ ?_
  ·refine ⟨hT.symm,by simp,hpl,by simp [List.count_replicate];omega,?_⟩;intro p hp;have:=hpv p hp;dsimp only;omega
  ·simp only [go_sem,seval]<;>simp
  rintro ⟨n,gs,ps⟩ ⟨h1,h2,h3,h4,h5⟩
  dsimp only at h1 h2 h3 h4 h5 |-;rcases Nat.eq_zero_or_pos n with rfl | hpos
  ·have h1:ps=T:=h1;rw [h1];simp only [go_sem,seval];refine WeakK.id ?_;simp only [go_sem,seval]
  obtain ⟨m,rfl⟩:∃ m,n=m+1:=⟨n-1,by omega⟩
  obtain ⟨hb1,hb2,hb3⟩:=hloop gs (by omega) h2;have hd0:decide (0 < ((m+1:Nat):Int))=true:=decide_eq_true (by omega);have hw1:IntKind.wrap .i64 (((m+1:Nat):Int)-1)=(m:Int):=by rw [wr64 (by omega) (by omega)];omega
  simp only [giveG,hRl] at h1;simp only [go_sem,seval,hd0,ints_len];refine LoopK.walk (S:=Unit) ws.length [1,10,11,12,14] [176,192,240] (fun i _=>[(16,.int .i64 i),(15,.int .i64 (bstG R gs i))]) (fun _ _=>[]) (fun _ _=>True) () trivial ?_ ?_ ?_
  ·simp only [go_sem,seval]<;>simp [bstG]
  ·intro i _ hi hdi hwi _;have hig:i < gs.length:=by omega
   have hiR:i < R.length:=by omega
   have hmg:=blsG_at gs hig;have hmi:=wds_at R hiR;have hgd:gs.getD i true=gs[i]:=by simp [hig]
   have hRd:R.getD i 0=R[i]:=by simp [hiR]
   have hb:=hbst gs i
   have hst:bstG R gs (i+1)=if !gs[i]&&(decide (bstG R gs i < 0)||decide (R.getD (bstG R gs i).toNat 0 < R[i])) then (i:Int) else bstG R gs i:=by
    simp only [bstG,hgd,hRd]
   have hli:(i:Int) < (gs.length:Int):=by omega
   have hlR:(i:Int) < (R.length:Int):=by omega
   cases hg:gs[i]
   case true =>
    rw [hg] at hst hmg;simp only [Bool.not_true,Bool.false_and,bfe,if_false] at hst;simp only [go_sem,seval,ints_len,hdi,hmg,blsG_len,hwi];(with_reducible and_intros)<;>first|exact .dq|omega|skip
    refine RoundK.step () hi trivial ?_;simp only [go_sem,seval,hst]
   rw [hg] at hst hmg;rcases Int.lt_or_le (bstG R gs i) 0 with hb0 | hb0
   ·have d:decide (bstG R gs i < 0)=true:=decide_eq_true hb0;simp only [d,Bool.not_false,Bool.true_and,Bool.true_or,if_true] at hst;simp only [go_sem,seval,ints_len,hdi,hmg,blsG_len,d,hwi];(with_reducible and_intros)<;>first|exact .dq|omega|skip
    refine RoundK.step () hi trivial ?_;simp only [go_sem,seval,hst]
   have d:decide (bstG R gs i < 0)=false:=decide_eq_false (by omega);obtain ⟨b,hbb⟩:∃ b:Nat,bstG R gs i=b:=⟨(bstG R gs i).toNat,by omega⟩
   have hbR:b < R.length:=by omega
   have hmb:=wds_at R hbR;have hbd:R.getD b 0=R[b]:=by simp [hbR]
   have hlb:(b:Int) < (R.length:Int):=by omega
   have cL:=refLess01_spec R[b] R[i];rw [hbb] at d hst;simp only [d,Bool.not_false,Bool.true_and,Bool.false_or,Int.toNat_natCast,hbd] at hst;simp only [wd] at cL;simp only [hbb];simp only [go_sem,seval,ints_len,hdi,hmg,blsG_len,d,hmb,hmi,wds_len];(with_reducible and_intros)<;>first|exact .dq|omega|skip
   refine CallN.pure cL ?_
   by_cases hl:R[b] < R[i]
   ·have d2:decide (R[b] < R[i])=true:=decide_eq_true hl;rw [d2,if_pos rfl] at hst;simp only [go_sem,seval,d2,hwi];(with_reducible and_intros)<;>first|exact .dq|omega|skip
    refine RoundK.step () hi trivial ?_;simp only [go_sem,seval,hst]
   ·have d2:decide (R[b] < R[i])=false:=decide_eq_false hl;rw [d2,if_neg (by simp)] at hst;simp only [go_sem,seval,d2,hwi];(with_reducible and_intros)<;>first|exact .dq|omega|skip
    refine RoundK.step () hi trivial ?_;simp only [go_sem,seval,hst]
  ·intro _ hdx _;obtain ⟨b,hbb⟩:∃ b:Nat,bstG R gs ws.length=b:=⟨(bstG R gs ws.length).toNat,by omega⟩
   rw [hbb] at h1 hb1 hb2 hb3 |-;rw [Int.toNat_natCast] at h1 hb3;have hbg:b < gs.length:=by omega
   have hbp:b < ps.length:=by omega
   have hmg:=blsG_at gs hbg;have hmp:=ints_at ps hbp;have hpd:ps.getD b 0=ps[b]:=by simp [hbp]
   have hlg:(b:Int) < (gs.length:Int):=by omega
   have hlp:(b:Int) < (ps.length:Int):=by omega
   have hpr:=h5 ps[b] (List.getElem_mem hbp);have hwp:IntKind.wrap .i64 (ps[b]+1)=ps[b]+1:=wr64 (by omega) (by omega);rw [hpd] at h1;have hcs:=count_set hb3
   have h5':∀ p∈ps.set b (ps[b]+1),0<=p/\p+(m:Nat)<=4611686018427387904+(n0:Nat):=fun p hp=>by
    rcases List.mem_or_eq_of_mem_set hp with h | rfl
    ·have:=h5 p h;omega
    ·omega
   simp only [go_sem,seval,ints_len,hdx,hmg,hmp,blsG_len,hwp,hw1];(with_reducible and_intros)<;>first|exact .dq|omega|skip
   refine ⟨(m,gs.set b true,ps.set b (ps[b]+1)),⟨h1,by simp [h2],by simp [h3],by dsimp only;omega,h5'⟩,?_,by simp⟩;simp only [go_sem,seval,ints_set,bls_set]<;>simp
theorem refSplit_spec (t:Int) (ws:List Int) (hl:ws.length < 2 ^ 30):Abs.Spec Tryz.prog 345 [] [.int .i64 t,.sl 1 (ints ws)] [] (.tup [.sl 1 (ints (splitL t ws)),.int .i64 (splitE t ws)]):=by
 refine Spec.frozen (refSplit_own t ws hl) [0] rfl ?_;intro r;rcases r with _ | r<;>rfl
theorem giveG_rng {rs:List Int} {B:Int}:∀ (n:Nat) (gs:List Bool) (ps:List Int),0<=B->(∀ p∈ps,0<=p/\p<=B)->∀ p∈giveG rs n gs ps,0<=p/\p<=B+n
 | 0,_,_,_,h=>fun p hp=>by have:=h p hp;simp;omega
 | n+1,gs,ps,hB,h=>by
  intro p hp;simp only [giveG] at hp
  have:=giveG_rng (B:=B+1) n _ _ (by omega) (fun q hq=>by
   rcases List.mem_or_eq_of_mem_set hq with h1 | rfl
   ·have:=h q h1;omega
   ·have:0<=ps.getD (bstG rs gs rs.length).toNat 0/\ps.getD (bstG rs gs rs.length).toNat 0<=B:=by
     rw [List.getD_eq_getElem?_getD];cases he:ps[(bstG rs gs rs.length).toNat]? with
     | none=>simp;exact hB
     | some x=>exact h x (List.mem_of_getElem? he)
    omega) p hp
  push_cast;omega
theorem splitL_rng (t:Int) (ws:List Int):∀ p∈splitL t ws,0<=p/\p<=4611686018427388928:=by
 intro p hp;unfold splitL at hp;split at hp
 ·rename_i hE;unfold splitE at hE;split at hE
  ·rename_i h1;simp only [bae,Bool.not_eq_true',decide_eq_false_iff_not] at h1;split at hE
   ·rename_i h2;split at hE
    ·cases hE
    ·rename_i h3;split at hp
     ·have:p=0:=by simpa using (List.mem_replicate.1 hp).2
      omega
     ·rename_i h4
      have hnn:∀ x∈ws,0<=x:=fun x hx=>by
       have:=List.all_eq_true.1 h2 x hx;simp only [Bool.not_eq_true',decide_eq_false_iff_not] at this;omega
      have hs0:=sum_nonneg hnn;have hlr:=left_range (t:=t) (ws:=ws) (by omega) rfl (by omega) hnn;have htr:=inR_iff.1 h1.1.2
      have:=giveG_rng (B:=4611686018427387904) _ _ _ (by decide) (fun q hq=>by
       obtain ⟨x,hx,rfl⟩:=List.mem_map.1 hq;have:=part_range (t:=t) (W:=sumL ws) (x:=x) (by omega) (by omega) (hnn x hx) (sum_mem hnn x hx)
       omega) p hp
      omega
   ·cases hE
  ·cases hE
 ·cases hp
def namedB (c:Int) (ws:List Int):Bool:=chB (fun x=>within x 1 16) (fun a b=>decide (a < b)) ws&&within c 0 2
theorem refNamed_spec (c:Int) (ws:List Int) (hl:ws.length < 2 ^ 30):Abs.Spec Tryz.prog 325 [] [.int .i64 c,.sl 1 (ints ws)] [] (.bool (namedB c ws)):=by
 have c2:=refCur_spec c;simp only [namedB];refine sgo 36 2 [.tmp 4] mixed Tryz.func325 ?_;simp only [go_sem,seval,ints_len];refine LoopK.walk (S:=Unit) ws.length [0,1] [] (fun i _=>[(5,.int .i64 i)]) (fun _ _=>[]) (fun i _=>∀ j < i,chAt (fun x=>within x 1 16) (fun a b=>decide (a < b)) ws j=true) () (by simp) ?_ ?_ ?_
 ·simp only [go_sem,seval]<;>simp
 ·intro i _ hi hdi hwi hI;have hm:=ints_at ws hi;have hli:(i:Int) < (ws.length:Int):=by omega
  have h1:=refWho_spec ws[i];have e0:=ch_next (ok:=fun x=>within x 1 16) (lt:=fun a b:Int=>decide (a < b)) (xs:=ws) (i:=i) hI;have e1:chAt (fun x=>within x 1 16) (fun a b=>decide (a < b)) ws i=false->chB (fun x=>within x 1 16) (fun a b=>decide (a < b)) ws=false:=fun h=>chB_no hi h
  rcases Nat.eq_zero_or_pos i with rfl | hpos
  ·have hk:=chAt_zero (ok:=fun x=>within x 1 16) (lt:=fun a b:Int=>decide (a < b)) hi;have hd0:decide ((0:Int) < (ws.length:Int))=true:=decide_eq_true (by omega);simp only [go_sem,seval,ints_len,hd0,hm];(with_reducible and_intros)<;>first|exact .dq|omega|skip
   refine CallN.pure h1 ?_;cases q:within ws[0] 1 16
   ·have:=e1 (by rw [hk,q]);simp only [go_sem,seval,q,this,Bool.false_and]
    all_goals (with_reducible and_intros)<;>first|exact .dq|omega|skip
   simp only [go_sem,seval,q,hwi]
   all_goals (with_reducible and_intros)<;>first|exact .dq|omega|skip
   all_goals refine RoundK.step () hi (e0 (by rw [hk,q])) ?_
   all_goals simp only [go_sem,seval]
   all_goals rfl
  ·obtain ⟨j,rfl⟩:∃ j,i=j+1:=⟨i-1,by omega⟩
   have hj:j < ws.length:=by omega
   have hw1:IntKind.wrap .i64 (((j+1:Nat):Int)-1)=(j:Int):=by rw [wr64 (by omega) (by omega)];omega
   have hk:=chAt_succ (ok:=fun x=>within x 1 16) (lt:=fun a b:Int=>decide (a < b)) hi;have hmj:=ints_at ws hj;have hd:decide (0 < ((j+1:Nat):Int))=true:=decide_eq_true (by omega);simp only [go_sem,seval,ints_len,hdi,hm];(with_reducible and_intros)<;>first|exact .dq|omega|skip
   refine CallN.pure h1 ?_;cases q:within ws[j+1] 1 16
   ·have:=e1 (by rw [hk,q];rfl);simp only [go_sem,seval,q,this,Bool.false_and]
    all_goals (with_reducible and_intros)<;>first|exact .dq|omega|skip
   by_cases q2:ws[j] < ws[j+1]
   ·have d:decide (ws[j+1]<=ws[j])=false:=decide_eq_false (by omega);simp only [go_sem,seval,q,hd,hw1,hmj,hm,ints_len,d,hwi];(with_reducible and_intros)<;>first|exact .dq|omega|skip
    refine RoundK.step () hi (e0 (by rw [hk,q,decide_eq_true q2];rfl)) ?_;simp only [go_sem,seval]
   ·have d:decide (ws[j+1]<=ws[j])=true:=decide_eq_true (by omega);have:=e1 (by rw [hk,q,decide_eq_false q2];rfl);simp only [go_sem,seval,q,hd,hw1,hmj,hm,ints_len,d,this,Bool.false_and];(with_reducible and_intros)<;>first|exact .dq|omega|skip
 ·intro _ hdx hI;have:=chB_yes (fun j (hj:j < ws.length)=>hI j hj);simp only [go_sem,seval,ints_len,hdx,this];(with_reducible and_intros)<;>first|exact .dq|omega|skip
  refine CallN.pure c2 ?_;simp only [go_sem,seval,Bool.true_and]
def ownedL (l:LedV) (c:Int) (ws:List Int):List Int:=ws.map fun w=>ofL ⟨3,w,c⟩ l.bs
theorem refOwned_own (l:LedV) (c:Int) (ws:List Int) (hb:l.bs.length < 2 ^ 30) (hl:ws.length < 2 ^ 30):Abs.Spec Tryz.prog 326 [] [.agg l.cells,.int .i64 c,.sl 1 (ints ws)] [.own 1 (ints (ownedL l c ws))] (.ref 0):=by
 have cO:=fun a=>ref8Of_spec l a hb
 simp only [LedV.cells,AcctV.cells] at cO |-;refine sgo 27 3 [.tmp 6] mixed Tryz.func326 ?_;simp only [go_sem,seval,ints_len];refine LoopK.walk (S:=Unit) ws.length [1,2,3] [64] (fun i _=>[(8,.int .i64 i),(7,.ref 416)]) (fun i _=>[(416,.own 1 (ints (ownedL l c (ws.take i))))]) (fun _ _=>True) () trivial ?_ ?_ ?_
 ·simp only [go_sem,seval]<;>simp [ownedL,ints]
 ·intro i _ hi hdi hwi _;have hm:=ints_at ws hi;have hli:(i:Int) < (ws.length:Int):=by omega
  have hs:ints (ownedL l c (ws.take (i+1)))=ints (ownedL l c (ws.take i))++[[.int .i64 (ofL ⟨3,ws[i],c⟩ l.bs)]]:=by
   rw [List.take_succ_eq_append_getElem hi];simp only [ownedL,ints,List.map_append,List.map_cons,List.map_nil]
  have hlen:(ownedL l c (ws.take i)).length=i:=by simp [ownedL];omega
  have cOi:=cO ⟨3,ws[i],c⟩;clear cO;simp only [go_sem,seval,ints_len,hdi,hm];(with_reducible and_intros)<;>first|exact .dq|omega|skip
  refine CallN.pure cOi ?_;simp only [go_sem,seval,ints_len,hlen,hwi];(with_reducible and_intros)<;>first|exact .dq|omega|skip
  refine RoundK.step () hi trivial ?_;simp only [go_sem,seval,hs]
 ·intro _ hdx _;simp only [go_sem,seval,ints_len,hdx,List.take_length]
theorem refOwned_spec (l:LedV) (c:Int) (ws:List Int) (hb:l.bs.length < 2 ^ 30) (hl:ws.length < 2 ^ 30):Abs.Spec Tryz.prog 326 [] [.agg l.cells,.int .i64 c,.sl 1 (ints ws)] [] (.sl 1 (ints (ownedL l c ws))):=by
 refine Spec.frozen (refOwned_own l c ws hb hl) [0] rfl ?_;intro r;rcases r with _ | r<;>rfl
def needsL (r:RollV) (ws:List Int):List Int:=ws.map fun w=>(memOf r w).need
theorem refNeedsL_own (r:RollV) (ws:List Int) (h:r.tiny) (hl:ws.length < 2 ^ 30):Abs.Spec Tryz.prog 327 [] [.agg r.cells,.sl 1 (ints ws)] [.own 1 (ints (needsL r ws))] (.ref 0):=by
 have cM:=fun n=>refMemberFind_spec r n h.small
 simp only [RollV.cells] at cM |-;refine sgo 30 2 [.tmp 4] mixed Tryz.func327 ?_;simp only [go_sem,seval,ints_len];refine LoopK.walk (S:=Unit) ws.length [1,2] [48] (fun i _=>[(6,.int .i64 i),(5,.ref 464)]) (fun i _=>[(464,.own 1 (ints (needsL r (ws.take i))))]) (fun _ _=>True) () trivial ?_ ?_ ?_
 ·simp only [go_sem,seval]<;>simp [needsL,ints]
 ·intro i _ hi hdi hwi _;have hm:=ints_at ws hi;have hli:(i:Int) < (ws.length:Int):=by omega
  have hs:ints (needsL r (ws.take (i+1)))=ints (needsL r (ws.take i))++[[.int .i64 (memOf r ws[i]).need]]:=by
   rw [List.take_succ_eq_append_getElem hi];simp only [needsL,ints,List.map_append,List.map_cons,List.map_nil]
  have hlen:(needsL r (ws.take i)).length=i:=by simp [needsL];omega
  have cMi:=cM ws[i];obtain ⟨g,hg⟩:=nmE (memOf r ws[i]);rw [<- hg] at cMi hs;simp only [MemberV.cells] at cMi;clear cM;simp only [go_sem,seval,ints_len,hdi,hm];(with_reducible and_intros)<;>first|exact .dq|omega|skip
  refine CallN.pure cMi ?_;simp only [go_sem,seval,ints_len,hlen,hwi];(with_reducible and_intros)<;>first|exact .dq|omega|skip
  refine RoundK.step () hi trivial ?_;simp only [go_sem,seval,hs]
 ·intro _ hdx _;simp only [go_sem,seval,ints_len,hdx,List.take_length]
theorem refNeedsL_spec (r:RollV) (ws:List Int) (h:r.tiny) (hl:ws.length < 2 ^ 30):Abs.Spec Tryz.prog 327 [] [.agg r.cells,.sl 1 (ints ws)] [] (.sl 1 (ints (needsL r ws))):=by
 refine Spec.frozen (refNeedsL_own r ws h hl) [0] rfl ?_;intro r;rcases r with _ | r<;>rfl
theorem getL_all {A:Type} {no:A->Int} {n:Int} {z:A} {R:A->Prop} (hz:R z):∀ {xs:List A},(∀ x∈xs,R x)->R (getL no n z xs)
 | [],_=>hz
 | x :: r,h=>by
  simp only [getL];split
  ·exact h x (by simp)
  ·exact getL_all hz fun y hy=>h y (by simp [hy])
theorem memOf_rng {r:RollV} (h:∀ m∈r.ms,m.rng) (n:Int):(memOf r n).rng:=getL_all (R:=MemberV.rng) ⟨⟨by decide,by decide⟩,⟨by decide,by decide⟩,⟨by decide,by decide⟩⟩ h
def sharesE (l:LedV) (c:Int) (ws:List Int):Int:=if l.okB then (if namedB c ws then (if inR (sumL (ownedL l c ws)) then 0 else 1) else 3) else 14
def sharesN (l:LedV) (c:Int) (ws:List Int):Int:=if sharesE l c ws=0 then sumL (ownedL l c ws) else 0
theorem refShares_spec (l:LedV) (c:Int) (ws:List Int) (hb:l.bs.length < 2 ^ 30) (hr:∀ b∈l.bs,b.rng) (hl:ws.length < 2 ^ 29):Abs.Spec Tryz.prog 300 [] [.agg l.cells,.int .i64 c,.sl 1 (ints ws)] [] (.tup [.int .i64 (sharesN l c ws),.int .i64 (sharesE l c ws)]):=by
 have c1:=ref8Ledger_spec l hb hr;have c2:=refNamed_spec c ws (by omega);have c3:=refOwned_spec l c ws hb (by omega);have c4:=refAdd_spec (ownedL l c ws) (fun n hn=>by obtain ⟨w,_,rfl⟩:=List.mem_map.1 hn;exact ofL_rng hr) (by simp [ownedL];omega);simp only [LedV.cells] at c1 c3 |-;refine sgo 28 3 [.tmp 6,.tmp 7] mixed Tryz.func300 ?_;simp only [go_sem,seval];(with_reducible and_intros)<;>first|exact .dq|omega|skip
 refine CallN.pure c1 ?_;cases b1:l.okB
 ·have e:sharesE l c ws=14:=by simp [sharesE,b1]
  simp only [go_sem,seval,sharesN,e]<;>simp
 simp only [go_sem,seval];(with_reducible and_intros)<;>first|exact .dq|omega|skip
 refine CallN.pure c2 ?_;cases b2:namedB c ws
 ·have e:sharesE l c ws=3:=by simp [sharesE,b1,b2]
  simp only [go_sem,seval,sharesN,e]<;>simp
 have e:sharesE l c ws=if inR (sumL (ownedL l c ws)) then 0 else 1:=by simp [sharesE,b1,b2]
 simp only [sharesN];rw [e];simp only [go_sem,seval];(with_reducible and_intros)<;>first|exact .dq|omega|skip
 refine CallN.pure c3 ?_;simp only [go_sem,seval];(with_reducible and_intros)<;>first|exact .dq|omega|skip
 refine CallN.pure c4 ?_;cases q:inR (sumL (ownedL l c ws))<;>simp only [go_sem,seval,q,addN]<;>simp
def needsE (r:RollV) (ws:List Int):Int:=if r.okB then (if namedB 0 ws then (if inR (sumL (needsL r ws)) then 0 else 1) else 3) else 14
def needsN (r:RollV) (ws:List Int):Int:=if needsE r ws=0 then sumL (needsL r ws) else 0
theorem refNeeds_spec (r:RollV) (ws:List Int) (h:r.tiny) (hr:∀ m∈r.ms,m.rng) (hl:ws.length < 2 ^ 29):Abs.Spec Tryz.prog 302 [] [.agg r.cells,.sl 1 (ints ws)] [] (.tup [.int .i64 (needsN r ws),.int .i64 (needsE r ws)]):=by
 have c1:=refRoll_spec r h.small;have c2:=refNamed_spec 0 ws (by omega);have c3:=refNeedsL_spec r ws h (by omega);have c4:=refAdd_spec (needsL r ws) (fun n hn=>by obtain ⟨w,_,rfl⟩:=List.mem_map.1 hn;exact (memOf_rng hr w).2.2) (by simp [needsL];omega);simp only [RollV.cells] at c1 c3 |-;refine sgo 24 2 [.tmp 4,.tmp 5] mixed Tryz.func302 ?_;simp only [go_sem,seval];(with_reducible and_intros)<;>first|exact .dq|omega|skip
 refine CallN.pure c1 ?_;cases b1:r.okB
 ·have e:needsE r ws=14:=by simp [needsE,b1]
  simp only [go_sem,seval,needsN,e]<;>simp
 simp only [go_sem,seval];(with_reducible and_intros)<;>first|exact .dq|omega|skip
 refine CallN.pure c2 ?_;cases b2:namedB 0 ws
 ·have e:needsE r ws=3:=by simp [needsE,b1,b2]
  simp only [go_sem,seval,needsN,e]<;>simp
 have e:needsE r ws=if inR (sumL (needsL r ws)) then 0 else 1:=by simp [needsE,b1,b2]
 simp only [needsN];rw [e];simp only [go_sem,seval];(with_reducible and_intros)<;>first|exact .dq|omega|skip
 refine CallN.pure c3 ?_;simp only [go_sem,seval];(with_reducible and_intros)<;>first|exact .dq|omega|skip
 refine CallN.pure c4 ?_;cases q:inR (sumL (needsL r ws))<;>simp only [go_sem,seval,q,addN]<;>simp
def bornP (k c:Int) (ws ps:List Int) (i:Nat):List LegV:=[⟨k,ws.getD i 0,c,-(ps.getD i 0)⟩]
def bornG (k c n:Int) (ws ps:List Int):List LegV:=⟨6,0,c,n⟩ :: frm (bornP k c ws ps) ps.length
def bornE (k c n all:Int) (ws gs:List Int):Int:=if within n 0 4611686018427387904 then (if all < n then 13 else joinE (bornG k c n ws (splitL n gs))) else 3
def bornL (k c n all:Int) (ws gs:List Int):List LegV:=if bornE k c n all ws gs=0 then joinL (bornG k c n ws (splitL n gs)) else []
theorem refBorne_spec (k c n all:Int) (ws gs:List Int) (he:gs.length=ws.length) (hl:ws.length < 2 ^ 27):Abs.Spec Tryz.prog 329 [] [.int .i64 k,.int .i64 c,.int .i64 n,.int .i64 all,.sl 1 (ints ws),.sl 1 (ints gs)] [] (.tup [.sl 4 ((bornL k c n all ws gs).map LegV.cells),.int .i64 (bornE k c n all ws gs)]):=by
 have c1:=within19_spec n 0 4611686018427387904;have c2:=refSplit_spec n gs (by omega);have hpl:=splitL_len n gs;have hpr:=splitL_rng n gs
 have e0:within n 0 4611686018427387904=true -> ¬ all < n->bornL k c n all ws gs=joinL (bornG k c n ws (splitL n gs)):=fun h1 h2=>by
  simp only [bornL,bornE,h1,if_neg h2,if_true];split
  ·rfl
  ·rename_i h;simp [joinL,h]
 refine sgo 61 6 [.tmp 12,.tmp 13] mixed Tryz.func329 ?_;simp only [go_sem,seval];(with_reducible and_intros)<;>first|exact .dq|omega|skip
 refine CallN.pure c1 ?_;cases b1:within n 0 4611686018427387904
 ·have e:bornE k c n all ws gs=3:=by simp [bornE,b1]
  simp only [go_sem,seval,bornL,e]<;>simp
 by_cases b2:all < n
 ·have d:decide (all < n)=true:=decide_eq_true b2;have e:bornE k c n all ws gs=13:=by simp [bornE,b1,b2]
  simp only [go_sem,seval,d,bornL,e]<;>simp
 have d2:decide (all < n)=false:=decide_eq_false b2;have e:bornE k c n all ws gs=joinE (bornG k c n ws (splitL n gs)):=by simp [bornE,b1,b2]
 rw [e,e0 b1 b2];clear e e0 c1;obtain ⟨ps,hps⟩:=nmE (splitL n gs);rw [<- hps] at c2 hpl hpr |-;have hgl:=frm_len (f:=bornP k c ws ps) (m:=1) (fun i=>by simp [bornP]) ps.length;have cJ:=ref8Join_spec (bornG k c n ws ps) (by simp only [bornG,List.length_cons];omega);simp only [go_sem,seval,d2];(with_reducible and_intros)<;>first|exact .dq|omega|skip
 refine CallN.pure c2 ?_;simp only [go_sem,seval,ints_len];(with_reducible and_intros)<;>first|exact .dq|omega|skip
 refine LoopK.walk (S:=Unit) ps.length [0,1,4,14] [] (fun i _=>[(17,.int .i64 i),(16,.ref 912)]) (fun i _=>[(912,.own 4 ((⟨6,0,c,n⟩ :: frm (bornP k c ws ps) i:List LegV).map LegV.cells))]) (fun _ _=>True) () trivial ?_ ?_ ?_
 ·simp only [go_sem,seval,frm_zero]<;>simp
 ·intro i _ hi hdi hwi _;have hm:=ints_at ps hi;have hiw:i < ws.length:=by omega
  have hmw:=ints_at ws hiw;have hp:=hpr ps[i] (List.getElem_mem hi);have hw:IntKind.wrap .i64 (0-ps[i]) = -ps[i]:=by rw [wr64 (by omega) (by omega)];omega
  have hs:(⟨6,0,c,n⟩ :: frm (bornP k c ws ps) (i+1):List LegV)=(⟨6,0,c,n⟩ :: frm (bornP k c ws ps) i)++[⟨k,ws[i],c,-ps[i]⟩]:=by
   rw [frm_step];simp [bornP,hi,hiw]
  have hll:=frm_len (f:=bornP k c ws ps) (m:=1) (fun i=>by simp [bornP]) i;obtain ⟨L,hL⟩:=nmE ((⟨6,0,c,n⟩ :: frm (bornP k c ws ps) i:List LegV));have hLl:L.length<=i+1:=by rw [hL,List.length_cons];omega
  rw [<- hL] at hs |-;have hlw:(i:Int) < (ws.length:Int):=by omega
  have hlp:(i:Int) < (ps.length:Int):=by omega
  clear cJ;simp only [go_sem,seval,ints_len,hdi,hm,hmw,hw,hwi,lml];(with_reducible and_intros)<;>first|exact .dq|omega|skip
  refine RoundK.step () hi trivial ?_;simp only [go_sem,seval];have hsm:=congrArg (List.map LegV.cells) hs;simp only [List.map_append,List.map_cons,List.map_nil] at hsm |-;exact hsm.symm
 ·intro _ hdx _;simp only [go_sem,seval,ints_len,hdx];(with_reducible and_intros)<;>first|exact .dq|omega|skip
  refine CallN.gen [912] [] false (by simp) ?_;simp only [go_sem,seval];refine CallG.intro cJ ?_;simp only [go_sem,seval]
def levyE (l:LedV) (c n:Int) (ws:List Int):Int:=if sharesE l c ws=0 then bornE 3 c n (sharesN l c ws) ws (ownedL l c ws) else sharesE l c ws
def levyL (l:LedV) (c n:Int) (ws:List Int):List LegV:=if sharesE l c ws=0 then bornL 3 c n (sharesN l c ws) ws (ownedL l c ws) else []
theorem refLevy_spec (l:LedV) (c n:Int) (ws:List Int) (hb:l.bs.length < 2 ^ 30) (hr:∀ b∈l.bs,b.rng) (hl:ws.length < 2 ^ 27):Abs.Spec Tryz.prog 305 [] [.agg l.cells,.int .i64 c,.int .i64 n,.sl 1 (ints ws)] [] (.tup [.sl 4 ((levyL l c n ws).map LegV.cells),.int .i64 (levyE l c n ws)]):=by
 have c1:=refShares_spec l c ws hb hr (by omega);have c2:=refOwned_spec l c ws hb (by omega);have c3:=refBorne_spec 3 c n (sharesN l c ws) ws (ownedL l c ws) (by simp [ownedL]) hl;simp only [LedV.cells] at c1 c2 |-;simp only [levyL,levyE];refine sgo 33 4 [.tmp 8,.tmp 9] mixed Tryz.func305 ?_;simp only [go_sem,seval];(with_reducible and_intros)<;>first|exact .dq|omega|skip
 refine CallN.pure c1 ?_
 by_cases b1:sharesE l c ws=0
 case neg =>
  have d:(sharesE l c ws==0)=false:=by simpa using b1
  simp only [go_sem,seval,bne,d,if_neg b1]<;>simp
 rw [b1,if_pos rfl,if_pos rfl];simp only [go_sem,seval];(with_reducible and_intros)<;>first|exact .dq|omega|skip
 refine CallN.pure c2 ?_;simp only [go_sem,seval];(with_reducible and_intros)<;>first|exact .dq|omega|skip
 refine CallN.pure c3 ?_;simp only [go_sem,seval]
def assessE (r:RollV) (c n:Int) (ws:List Int):Int:=if needsE r ws=0 then (if within c 0 2 then bornE 2 c n (needsN r ws) ws (needsL r ws) else 3) else needsE r ws
def assessL (r:RollV) (c n:Int) (ws:List Int):List LegV:=if needsE r ws=0&&within c 0 2 then bornL 2 c n (needsN r ws) ws (needsL r ws) else []
theorem refAssess_spec (r:RollV) (c n:Int) (ws:List Int) (h:r.tiny) (hr:∀ m∈r.ms,m.rng) (hl:ws.length < 2 ^ 27):Abs.Spec Tryz.prog 306 [] [.agg r.cells,.int .i64 c,.int .i64 n,.sl 1 (ints ws)] [] (.tup [.sl 4 ((assessL r c n ws).map LegV.cells),.int .i64 (assessE r c n ws)]):=by
 have c1:=refNeeds_spec r ws h hr (by omega);have c2:=refNeedsL_spec r ws h (by omega);have c3:=refBorne_spec 2 c n (needsN r ws) ws (needsL r ws) (by simp [needsL]) hl;have c4:=refCur_spec c;simp only [RollV.cells] at c1 c2 |-;simp only [assessL,assessE];refine sgo 34 4 [.tmp 8,.tmp 9] mixed Tryz.func306 ?_;simp only [go_sem,seval];(with_reducible and_intros)<;>first|exact .dq|omega|skip
 refine CallN.pure c1 ?_
 by_cases b1:needsE r ws=0
 case neg =>
  have d:(needsE r ws==0)=false:=by simpa using b1
  simp only [go_sem,seval,bne,d,if_neg b1]<;>simp [b1]
 rw [b1,if_pos rfl];simp only [go_sem,seval];(with_reducible and_intros)<;>first|exact .dq|omega|skip
 refine CallN.pure c4 ?_;cases b2:within c 0 2
 ·simp only [go_sem,seval]<;>simp
 simp only [go_sem,seval];(with_reducible and_intros)<;>first|exact .dq|omega|skip
 refine CallN.pure c2 ?_;simp only [go_sem,seval];(with_reducible and_intros)<;>first|exact .dq|omega|skip
 refine CallN.pure c3 ?_;simp only [go_sem,seval]<;>simp
def tearP (ws ps:List Int) (i:Nat):List FillV:=if 0 < ps.getD i 0 then [⟨ws.getD i 0,ps.getD i 0,0⟩] else []
def tearG (ws ps:List Int):List FillV:=frm (tearP ws ps) ps.length
def tearE (b:BookV) (w n k:Int):Int:=if b.okB then (if within k 0 1099511627776 then (if sumL (othN (posOf w n b.qs).qty n b.qs) < k then 13 else 0) else 3) else 14
def tearL (b:BookV) (w n k:Int):List FillV:=if tearE b w n k=0 then tearG (othW (posOf w n b.qs).qty n b.qs) (splitL k (othN (posOf w n b.qs).qty n b.qs)) else []
theorem pick_same {A:Type} (p:A->Bool) (f g:A->Int):∀ l:List A,(pick p f l).length=(pick p g l).length
 | []=>rfl
 | x :: r=>by
  have:=pick_same p f g r;simp only [pick,List.flatMap_cons,List.length_append] at this |-;split<;>simp [this]
theorem sum_small {B:Int} (hB:0<=B):∀ {l:List Int},(∀ x∈l,0<=x/\x<=B)->0<=sumL l/\sumL l<=B*l.length
 | [],_=>by simp [sumL]
 | x :: r,h=>by
  have h1:=h x (by simp);have h2:=sum_small hB (l:=r) fun y hy=>h y (by simp [hy])
  simp only [sumL,List.length_cons];push_cast;rw [Int.mul_add];omega
theorem refTear_own (b:BookV) (w n k:Int) (hb:b.small) (hr:∀ p∈b.qs,p.rng) (hq:b.qs.length < 2 ^ 20):Abs.Spec Tryz.prog 324 [] [.agg b.cells,.agg [.int .i64 w,.int .i64 n],.int .i64 k] [.own 3 ((tearL b w n k).map FillV.cells)] (.tup [.ref 0,.int .i64 (tearE b w n k)]):=by
 have c1:=refBook_spec b hb hr;have c2:=within19_spec k 0 1099511627776;simp only [BookV.cells] at c1 |-;refine sgo 73 3 [.tmp 6,.tmp 7] mixed Tryz.func324 ?_;simp only [go_sem,seval];(with_reducible and_intros)<;>first|exact .dq|omega|skip
 refine CallN.pure c1 ?_;cases b1:b.okB
 ·have e:tearE b w n k=14:=by simp [tearE,b1]
  simp only [go_sem,seval,tearL,e]<;>simp
 simp only [go_sem,seval];(with_reducible and_intros)<;>first|exact .dq|omega|skip
 refine CallN.pure c2 ?_;cases b2:within k 0 1099511627776
 ·have e:tearE b w n k=3:=by simp [tearE,b1,b2]
  simp only [go_sem,seval,tearL,e]<;>simp
 have e:tearE b w n k=if sumL (othN (posOf w n b.qs).qty n b.qs) < k then 13 else 0:=by simp [tearE,b1,b2]
 have hpn:=fun p hp=>pos_nums (book_pos b1 p hp)
 have c3:=refOthers_spec b w n hb (fun p hp=>⟨(hpn p hp).1,(hpn p hp).2.1⟩);have hsame:(othW (posOf w n b.qs).qty n b.qs).length=(othN (posOf w n b.qs).qty n b.qs).length:=pick_same _ _ _ _;have hnl:(othN (posOf w n b.qs).qty n b.qs).length<=b.qs.length:=pick_len _ _ _;have hnr:∀ x∈othN (posOf w n b.qs).qty n b.qs,0<=x/\x<=1099511627776:=pick_all fun p hp=>by have:=hpn p hp;omega
 simp only [tearL];rw [e];obtain ⟨ns,hns⟩:=nmE (othN (posOf w n b.qs).qty n b.qs);obtain ⟨ws,hws⟩:=nmE (othW (posOf w n b.qs).qty n b.qs);rw [<- hns] at hsame hnl hnr c3 |-;rw [<- hws] at hsame c3 |-;simp only [BookV.cells] at c3;clear hns hws e c1 c2;simp only [go_sem,seval];(with_reducible and_intros)<;>first|exact .dq|omega|skip
 refine CallN.pure c3 ?_;clear c3;simp only [go_sem,seval,ints_len];(with_reducible and_intros)<;>first|exact .dq|omega|skip
 refine LoopK.walk (S:=Unit) ns.length [2,8,9] [] (fun i _=>[(11,.int .i64 i),(10,.int .i64 (sumL (ns.take i)))]) (fun _ _=>[]) (fun _ _=>True) () trivial ?_ ?_ ?_
 ·simp only [go_sem,seval]<;>simp [sumL]
 ·intro i _ hi hdi hwi _;have hm:=ints_at ns hi;have hs:sumL (ns.take (i+1))=sumL (ns.take i)+ns[i]:=by rw [List.take_succ_eq_append_getElem hi,sumL_app]
  have h1:=sum_small (B:=1099511627776) (by decide) (l:=ns.take i) fun x hx=>hnr x (List.mem_of_mem_take hx)
  have h2:=hnr ns[i] (List.getElem_mem hi);have hlt:(ns.take i).length=i:=by simp;omega
  obtain ⟨S,hS⟩:=nmE (sumL (ns.take i));rw [<- hS] at hs h1 |-;rw [hlt] at h1;have hw:IntKind.wrap .i64 (S+ns[i])=S+ns[i]:=wr64 (by omega) (by omega);have hli:(i:Int) < (ns.length:Int):=by omega
  simp only [go_sem,seval,ints_len,hdi,hm,hw,hwi];(with_reducible and_intros)<;>first|exact .dq|omega|skip
  refine RoundK.step () hi trivial ?_;simp only [go_sem,seval,hs]
 intro _ hdx _;rw [List.take_length]
 by_cases b3:sumL ns < k
 ·have d:decide (sumL ns < k)=true:=decide_eq_true b3;simp only [go_sem,seval,ints_len,hdx,d,if_pos b3]<;>simp
 have d3:decide (sumL ns < k)=false:=decide_eq_false b3;have c4:=refSplit_spec k ns (by omega);have hpl:=splitL_len k ns;simp only [if_neg b3];obtain ⟨ps,hps⟩:=nmE (splitL k ns);rw [<- hps] at c4 hpl |-;simp only [go_sem,seval,ints_len,hdx,d3];(with_reducible and_intros)<;>first|exact .dq|omega|skip
 refine CallN.pure c4 ?_;clear c4 hdx;simp only [go_sem,seval,ints_len,if_true];(with_reducible and_intros)<;>first|exact .dq|omega|skip
 refine LoopK.walk (S:=Unit) ps.length [8,12] [] (fun i _=>[(15,.int .i64 i),(14,.ref 1152)]) (fun i _=>[(1152,.own 3 ((frm (tearP ws ps) i).map FillV.cells))]) (fun _ _=>True) () trivial ?_ ?_ ?_
 ·simp only [go_sem,seval,frm_zero]<;>simp
 ·intro i _ hi hdi hwi _;have hiw:i < ws.length:=by omega
  have hm:=ints_at ps hi;have hmw:=ints_at ws hiw;have hgp:ps.getD i 0=ps[i]:=by simp [hi]
  have hgw:ws.getD i 0=ws[i]:=by simp [hiw]
  have hs:=frm_step (tearP ws ps) i;have hll:=frm_len (f:=tearP ws ps) (m:=1) (fun i=>by unfold tearP;split<;>simp) i;obtain ⟨L,hL⟩:=nmE (frm (tearP ws ps) i);rw [<- hL] at hs hll |-;simp only [tearP,hgp,hgw] at hs;have hlw:(i:Int) < (ws.length:Int):=by omega
  have hlp:(i:Int) < (ps.length:Int):=by omega
  by_cases q:0 < ps[i]
  ·have d:decide (0 < ps[i])=true:=decide_eq_true q;rw [if_pos q] at hs;simp only [go_sem,seval,ints_len,hdi,hm,d,hmw,hwi,lml];(with_reducible and_intros)<;>first|exact .dq|omega|skip
   refine RoundK.step () hi trivial ?_;simp only [go_sem,seval,hs]<;>simp
  ·have d:decide (0 < ps[i])=false:=decide_eq_false q;rw [if_neg q,List.append_nil] at hs;simp only [go_sem,seval,ints_len,hdi,hm,d,hwi];(with_reducible and_intros)<;>first|exact .dq|omega|skip
   refine RoundK.step () hi trivial ?_;simp only [go_sem,seval,hs]
 ·intro _ hdx _;simp only [go_sem,seval,ints_len,hdx,tearG]
theorem led_pos {l:LedV} (h:l.okB=true) (w c:Int):0<=ofL ⟨3,w,c⟩ l.bs:=by
 simp only [LedV.okB,bae] at h
 have hk:∀ b∈l.bs,balOk b=true:=fun b hb=>by
  obtain ⟨i,hi,rfl⟩:=List.mem_iff_getElem.1 hb;have:=List.all_eq_true.1 h.1.2 i (List.mem_range.2 hi);rcases Nat.eq_zero_or_pos i with rfl | hp
  ·rwa [ledAt_zero hi] at this
  ·obtain ⟨j,rfl⟩:∃ j,i=j+1:=⟨i-1,by omega⟩
   rw [ledAt_succ hi,bae] at this;exact this.1
 clear h;generalize l.bs=bs at hk
 induction bs with
 | nil=>simp [ofL]
 | cons b r ih =>
  simp only [ofL];split
  ·rename_i hb;have h1:=hk b (by simp);simp only [isB,bae,beq_iff_eq] at hb;simp only [balOk,bae,Bool.not_eq_true',decide_eq_false_iff_not] at h1
   have hf:b.acct.floor=0:=by
    have:=floor_z b.acct;rw [h1.1,Bool.true_and] at this;have hk3:(b.acct.kind==3)=true:=by simp [BalV.acct,hb.1]
    rw [hk3,Bool.true_or] at this;simpa using this
   rw [hf] at h1;omega
  ·exact ih fun b hb=>hk b (by simp [hb])
def lackOf (l:LedV) (c:Int) (m:MemberV):Int:=max (m.need-ofL ⟨3,m.no,c⟩ l.bs) 0
def fillOf (l:LedV) (c:Int) (m:MemberV):Int:=min (lackOf l c m) (max (ofL ⟨2,m.no,c⟩ l.bs) 0)
def rfLegs (l:LedV) (c:Int) (m:MemberV):List LegV:=if m.state==1 then moveL ⟨2,m.no,c⟩ ⟨3,m.no,c⟩ (fillOf l c m) else []
def rfDue (l:LedV) (c:Int) (m:MemberV):List DueV:=if m.state==1&&decide (fillOf l c m < lackOf l c m) then [⟨m.no,c,lackOf l c m-fillOf l c m⟩] else []
def rfB (l:LedV) (r:RollV) (c:Int):Bool:=(l.okB&&r.okB)&&within c 0 2
def refillE (l:LedV) (r:RollV) (c:Int):Int:=if l.okB&&r.okB then (if within c 0 2 then joinE (r.ms.flatMap (rfLegs l c)) else 3) else 14
def refillL (l:LedV) (r:RollV) (c:Int):List LegV:=if rfB l r c then joinL (r.ms.flatMap (rfLegs l c)) else []
def refillD (l:LedV) (r:RollV) (c:Int):List DueV:=if rfB l r c then r.ms.flatMap (rfDue l c) else []
theorem mem_ok {r:RollV} (h:r.okB=true):∀ m∈r.ms,m.ok=true:=by
 simp only [RollV.okB,bae] at h;exact fun m hm=>rises_ok h.1.1 m hm
theorem refRefill_own (l:LedV) (r:RollV) (c:Int) (hb:l.bs.length < 2 ^ 30) (hr:∀ b∈l.bs,b.rng) (h:r.tiny) (hm:r.ms.length < 2 ^ 27):Abs.Spec Tryz.prog 251 [] [.agg l.cells,.agg r.cells,.int .i64 c] [.own 3 ((refillD l r c).map DueV.cells)] (.tup [.sl 4 ((refillL l r c).map LegV.cells),.ref 0,.int .i64 (refillE l r c)]):=by
 have c1:=ref8Ledger_spec l hb hr;have c2:=refRoll_spec r h.small;have c3:=refCur_spec c;have cO:=fun a=>ref8Of_spec l a hb
 have cM:=fun a b n=>ref8Move_spec a b n
 have hO:∀ a,l.okB=true->inR (ofL a l.bs)=true:=fun a h=>led_of_in h a
 have hF:=fun (h:l.okB=true) w=>led_pos h w c
 have hJl:=fm_len (f:=rfLegs l c) (m:=2) (fun m=>by unfold rfLegs;split<;>simp [moveL]) r.ms;have cJ:=ref8Join_spec (r.ms.flatMap (rfLegs l c)) (by omega);simp only [LedV.cells,AcctV.cells] at c1 cO cM |-;simp only [RollV.cells] at c2 |-;refine sgo 93 3 [.tmp 6,.tmp 7,.tmp 8] mixed Tryz.func251 ?_;simp only [go_sem,seval];(with_reducible and_intros)<;>first|exact .dq|omega|skip
 refine CallN.pure c1 ?_;cases b1:l.okB
 ·have e:refillE l r c=14:=by simp [refillE,b1]
  have e1:refillL l r c=[]:=by simp [refillL,rfB,b1]
  have e2:refillD l r c=[]:=by simp [refillD,rfB,b1]
  simp only [go_sem,seval,e,e1,e2]<;>simp
 simp only [go_sem,seval];(with_reducible and_intros)<;>first|exact .dq|omega|skip
 refine CallN.pure c2 ?_;cases b2:r.okB
 ·have e:refillE l r c=14:=by simp [refillE,b2]
  have e1:refillL l r c=[]:=by simp [refillL,rfB,b2]
  have e2:refillD l r c=[]:=by simp [refillD,rfB,b2]
  simp only [go_sem,seval,e,e1,e2]<;>simp
 simp only [go_sem,seval];(with_reducible and_intros)<;>first|exact .dq|omega|skip
 refine CallN.pure c3 ?_;cases b3:within c 0 2
 ·have e:refillE l r c=3:=by simp [refillE,b1,b2,b3]
  have e1:refillL l r c=[]:=by simp [refillL,rfB,b3]
  have e2:refillD l r c=[]:=by simp [refillD,rfB,b3]
  simp only [go_sem,seval,e,e1,e2]<;>simp
 have e:refillE l r c=joinE (r.ms.flatMap (rfLegs l c)):=by simp [refillE,b1,b2,b3]
 have e1:refillL l r c=joinL (r.ms.flatMap (rfLegs l c)):=by simp [refillL,rfB,b1,b2,b3]
 have e2:refillD l r c=r.ms.flatMap (rfDue l c):=by simp [refillD,rfB,b1,b2,b3]
 rw [e,e1,e2];have hO:=fun a=>hO a b1
 have hF:=hF b1;have hmo:=mem_ok b2;clear e e1 e2 c1 c2 c3;simp only [go_sem,seval,lml];(with_reducible and_intros)<;>first|exact .dq|omega|skip
 refine LoopK.walk (S:=Unit) r.ms.length [2,3,4] [64,80] (fun i _=>[(11,.int .i64 i),(9,.ref 1152),(10,.ref 1360)]) (fun i _=>[(1152,.own 4 (((r.ms.take i).flatMap (rfLegs l c)).map LegV.cells)),(1360,.own 3 (((r.ms.take i).flatMap (rfDue l c)).map DueV.cells))]) (fun _ _=>True) () trivial ?_ ?_ ?_
 ·simp only [go_sem,seval]<;>simp
 ·intro i _ hi hdi hwi _;have hm:=map_at (c:=MemberV.cells) r.ms hi;have hli:(i:Int) < (r.ms.length:Int):=by omega
  have hlt:(r.ms.take i).length=i:=by simp;omega
  have hs1:=fm_step (rfLegs l c) hi;have hs2:=fm_step (rfDue l c) hi;have hl1:=fm_len (f:=rfLegs l c) (m:=2) (fun m=>by unfold rfLegs;split<;>simp [moveL]) (r.ms.take i);have hl2:=fm_len (f:=rfDue l c) (m:=1) (fun m=>by unfold rfDue;split<;>simp) (r.ms.take i);have hok:=hmo _ (List.getElem_mem hi);obtain ⟨L,hL⟩:=nmE ((r.ms.take i).flatMap (rfLegs l c));obtain ⟨M,hM⟩:=nmE ((r.ms.take i).flatMap (rfDue l c));obtain ⟨x,hx⟩:=nmE (r.ms[i]);rw [<- hx] at hs1 hs2 hm hok;rw [<- hL] at hs1 hl1;rw [<- hM] at hs2 hl2;rw [<- hL,<- hM];simp only [MemberV.ok,inR,bae,decide_eq_true_eq] at hok;simp only [MemberV.cells] at hm;clear cJ hL hM hmo;cases q1:x.state==1
  ·simp only [rfLegs,rfDue,q1,Bool.false_and,bfe,if_false,List.append_nil] at hs1 hs2;simp only [go_sem,seval,lml,hdi,hm,bne,q1,hwi];(with_reducible and_intros)<;>first|exact .dq|omega|skip
   refine RoundK.step () hi trivial ?_;simp only [go_sem,seval,hs1,hs2]
  have h1:=inR_iff.1 (hO ⟨3,x.no,c⟩);have h2:=inR_iff.1 (hO ⟨2,x.no,c⟩);have h3:=hF x.no;have cF:=cO ⟨3,x.no,c⟩;have cC:=cO ⟨2,x.no,c⟩;have cMv:=cM ⟨2,x.no,c⟩ ⟨3,x.no,c⟩ (fillOf l c x);have hla:lackOf l c x=max (x.need-ofL ⟨3,x.no,c⟩ l.bs) 0:=rfl;have hfi:fillOf l c x=min (lackOf l c x) (max (ofL ⟨2,x.no,c⟩ l.bs) 0):=rfl;simp only [rfLegs,rfDue,q1,Bool.true_and,if_true] at hs1 hs2;obtain ⟨A,hA⟩:=nmE (lackOf l c x);obtain ⟨F,hFd⟩:=nmE (fillOf l c x);obtain ⟨f,hf⟩:=nmE (ofL ⟨3,x.no,c⟩ l.bs);obtain ⟨g,hg⟩:=nmE (ofL ⟨2,x.no,c⟩ l.bs);rw [<- hA,<- hFd] at hs2;rw [<- hFd] at hs1 cMv;rw [<- hA,<- hf] at hla;rw [<- hFd,<- hA,<- hg] at hfi;rw [<- hf] at cF h1 h3;rw [<- hg] at cC h2;have hw1:IntKind.wrap .i64 (x.need-f)=x.need-f:=wr64 (by omega) (by omega);have hw2:IntKind.wrap .i64 (A-F)=A-F:=wr64 (by omega) (by omega);have eA:max (x.need-f) 0=A:=hla.symm;have eF:min A (max g 0)=F:=hfi.symm;have hml:(moveL ⟨2,x.no,c⟩ ⟨3,x.no,c⟩ F).length=2:=rfl;obtain ⟨V,hV⟩:=nmE (moveL ⟨2,x.no,c⟩ ⟨3,x.no,c⟩ F);rw [<- hV] at hs1 cMv hml;clear cO cM hA hFd hf hg hV hO hF;simp only [go_sem,seval,lml,hdi,hm,bne,q1];(with_reducible and_intros)<;>first|exact .dq|omega|skip
  refine CallN.pure cF ?_;simp only [go_sem,seval,hw1,eA];(with_reducible and_intros)<;>first|exact .dq|omega|skip
  refine CallN.pure cC ?_;simp only [go_sem,seval,eF];(with_reducible and_intros)<;>first|exact .dq|omega|skip
  refine CallN.pure cMv ?_
  by_cases q2:F < A
  ·have d:decide (F < A)=true:=decide_eq_true q2;rw [d,if_pos rfl] at hs2;simp only [go_sem,seval,d,hw2,hwi,lml,hml];(with_reducible and_intros)<;>first|exact .dq|omega|skip
   refine RoundK.step () hi trivial ?_;simp only [go_sem,seval,hs1,hs2]<;>simp
  ·have d:decide (F < A)=false:=decide_eq_false q2;rw [d,if_neg (by simp),List.append_nil] at hs2;simp only [go_sem,seval,d,hwi,lml,hml];(with_reducible and_intros)<;>first|exact .dq|omega|skip
   refine RoundK.step () hi trivial ?_;simp only [go_sem,seval,hs1,hs2]<;>simp
 ·intro _ hdx _;simp only [go_sem,seval,lml,hdx,List.take_length];(with_reducible and_intros)<;>first|exact .dq|omega|skip
  refine CallN.gen [1152] [] false (by simp) ?_;simp only [go_sem,seval];refine CallG.intro cJ ?_;simp only [go_sem,seval]
theorem refRefill_spec (l:LedV) (r:RollV) (c:Int) (hb:l.bs.length < 2 ^ 30) (hr:∀ b∈l.bs,b.rng) (h:r.tiny) (hm:r.ms.length < 2 ^ 27):Abs.Spec Tryz.prog 251 [] [.agg l.cells,.agg r.cells,.int .i64 c] [] (.tup [.sl 4 ((refillL l r c).map LegV.cells),.sl 3 ((refillD l r c).map DueV.cells),.int .i64 (refillE l r c)]):=by
 refine Spec.frozen (refRefill_own l r c hb hr h hm) [0] rfl ?_;intro r;rcases r with _ | r<;>rfl
theorem acct22_spec (k w c:Int):Abs.Spec Tryz.prog 298 [] [.int .i64 k,.int .i64 w,.int .i64 c] [] (.agg [.int .i64 k,.int .i64 w,.int .i64 c]):=by
 refine sgo 11 3 [.cell 6 64] mixed Tryz.func298 ?_;simp only [go_sem,seval]
 all_goals (with_reducible and_intros)<;>first|exact .dq|omega|skip
theorem refAdd11_frozen (b:BookV) (g:List PosV) (hb:b.small) (hr:∀ p∈b.qs,p.rng) (hg:g.length < 2 ^ 29):Abs.Spec Tryz.prog 289 [] [.agg b.cells,.sl 4 (g.map PosV.cells)] [] (.tup [.agg (addB b g).cells,.int .i64 (addE b g)]):=by
 refine Spec.frozen (refAdd11_own b g hb hr hg) [0,1] rfl ?_;intro r;rcases r with _ | _ | r<;>rfl
def mayE (s:StateV) (w:Int):Int:=if rightS s then (if stOf s.roll w=0 then 10 else if stOf s.roll w=2 then 0 else 14) else 14
theorem refMay_spec (s:StateV) (w:Int) (hs:s.small) (hr:s.rng):Abs.Spec Tryz.prog 296 [] [.agg s.cells,.int .i64 w] [] (.int .i64 (mayE s w)):=by
 have c1:=refRightS_spec s hs hr;have c2:=refState_spec s w hs.roll.small;simp only [StateV.cells,mayE] at c1 c2 |-;obtain ⟨t,ht⟩:=nmE (stOf s.roll w);rw [<- ht] at c2 |-;refine sgo 15 2 [.tmp 4] mixed Tryz.func296 ?_;simp only [go_sem,seval];(with_reducible and_intros)<;>first|exact .dq|omega|skip
 refine CallN.pure c1 ?_;cases b1:rightS s
 ·simp only [go_sem,seval,b1]
 simp only [go_sem,seval,b1];(with_reducible and_intros)<;>first|exact .dq|omega|skip
 refine CallN.pure c2 ?_
 by_cases b2:t=0
 ·rw [b2];simp only [go_sem,seval]
  all_goals (with_reducible and_intros)<;>first|exact .dq|omega|skip
 by_cases b3:t=2
 ·rw [b3];simp only [go_sem,seval]
  all_goals (with_reducible and_intros)<;>first|exact .dq|omega|skip
 have d2:(t==0)=false:=by simpa using b2
 have d3:(t==2)=false:=by simpa using b3
 rw [if_neg b2,if_neg b3];simp only [go_sem,seval,d2,d3]
 all_goals (with_reducible and_intros)<;>first|exact .dq|omega|skip
def bidHit (s:StateV) (w n:Int) (b:BidV):Bool:=(b.who==w&&b.inst==n)&&stOf s.roll b.src==1
def bidsOf (s:StateV) (w n:Int) (l:List BidV):List BidV:=l.flatMap fun b=>if bidHit s w n b then [b] else []
def atPrice (p:Int) (f:FillV):FillV:={ f with price:=p }
def sellA (b:BookV) (w n:Int) (long:Bool) (f:List FillV):BookV × Int:=if flegE f=0 then (addB b (flegL w n long f),addE b (flegL w n long f)) else (b,flegE f)
def sellT (b:BookV) (w n p:Int) (long:Bool) (rest:Int):BookV × Int:=if tearE b w n rest=0 then sellA b w n long ((tearL b w n rest).map (atPrice p)) else (b,tearE b w n rest)
def sellR (s:StateV) (b:BookV) (w n q:Int):BookV × Int:=
 if hasPrice (instOf s.roll n) then
  (if fillE q (bidsOf s w n s.bids)=0 then
   (if (sellA b w n (decide (0 < q)) (fillR q (bidsOf s w n s.bids)).1).2=0/\(fillR q (bidsOf s w n s.bids)).2≠0 then
    sellT (sellA b w n (decide (0 < q)) (fillR q (bidsOf s w n s.bids)).1).1 w n (priceOf (instOf s.roll n)) (decide (0 < q)) (fillR q (bidsOf s w n s.bids)).2
   else sellA b w n (decide (0 < q)) (fillR q (bidsOf s w n s.bids)).1)
  else (b,fillE q (bidsOf s w n s.bids)))
 else (b,20)
structure BookV.fine (b:BookV):Prop where
 small:b.small
 short:b.qs.length < 2 ^ 20
 rng:∀ p∈b.qs,p.rng
 ok:∀ p∈b.qs,(-1099511627776<=p.qty/\p.qty<=1099511627776)/\inR p.cost=true
theorem addB_fine {b:BookV} (hb:b.fine) (g:List PosV):(addB b g).fine:=by
 unfold addB;split
 ·rename_i h;have hok:=(addE_adOk h).2.2;refine ⟨⟨hb.small.1,?_⟩,?_,adW_rng h,?_⟩
  ·have:=adW_len b g 16
   show (adW b g 16).length < _
   omega
  ·have:=adW_len b g 16
   show (adW b g 16).length < _
   omega
  ·intro p hp;obtain ⟨k,m,hk,hm,hp⟩:=adW_mem hp;have:=adOkW_at hok hk hm;simp only [adOk,within,bae,decide_eq_true_eq] at this;unfold adP at hp;split at hp
   ·cases hp
   ·obtain rfl:=List.mem_singleton.1 hp;exact ⟨this.2.2,this.2.1⟩
 ·exact ⟨⟨by simp,by simp⟩,by simp,by simp,by simp⟩
theorem sellA_fine {b:BookV} (hb:b.fine) (w n:Int) (long:Bool) (f:List FillV):(sellA b w n long f).1.fine:=by
 unfold sellA;split
 ·exact addB_fine hb _
 ·exact hb
theorem sellT_fine {b:BookV} (hb:b.fine) (w n p:Int) (long:Bool) (rest:Int):(sellT b w n p long rest).1.fine:=by
 unfold sellT;split
 ·exact sellA_fine hb _ _ _ _
 ·exact hb
theorem sellR_fine {s:StateV} {b:BookV} (hb:b.fine) (w n q:Int):(sellR s b w n q).1.fine:=by
 unfold sellR;split
 ·split
  ·split
   ·exact sellT_fine (sellA_fine hb _ _ _ _) _ _ _ _ _
   ·exact sellA_fine hb _ _ _ _
  ·exact hb
 ·exact hb
theorem flegL_len (w n:Int) (long:Bool) (f:List FillV):(flegL w n long f).length<=2*f.length:=by
 unfold flegL;split
 ·exact fm_len (f:=fleg w n long) (fun f=>by simp [fleg]) f
 ·simp
theorem tearL_len (b:BookV) (w n k:Int):(tearL b w n k).length<=b.qs.length:=by
 unfold tearL;split
 ·have h1:=frm_len (f:=tearP (othW (posOf w n b.qs).qty n b.qs) (splitL k (othN (posOf w n b.qs).qty n b.qs))) (m:=1) (fun i=>by unfold tearP;split<;>simp) (splitL k (othN (posOf w n b.qs).qty n b.qs)).length;have h2:=splitL_len k (othN (posOf w n b.qs).qty n b.qs);have h3:(othN (posOf w n b.qs).qty n b.qs).length<=b.qs.length:=pick_len _ _ _;simp only [tearG];omega
 ·simp
theorem bidsOf_len (s:StateV) (w n:Int) (l:List BidV):(bidsOf s w n l).length<=l.length:=by
 have:=fm_len (f:=fun b=>if bidHit s w n b then [b] else []) (m:=1) (fun b=>by split<;>simp) l;simpa [bidsOf] using this
theorem fillR_len (q:Int) (l:List BidV):(fillR q l).1.length<=l.length:=by
 unfold fillR;split
 ·refine Nat.le_trans (fillG_len _ _) ?_;rw [ordL,ordG_len];simp
 ·simp
theorem refSell_spec (s:StateV) (b:BookV) (w n q:Int) (hs:s.small) (hb:b.fine) (hbl:s.bids.length < 2 ^ 20):Abs.Spec Tryz.prog 297 [] [.agg s.cells,.agg b.cells,.agg [.int .i64 w,.int .i64 n],.int .i64 q] [] (.tup [.agg (sellR s b w n q).1.cells,.int .i64 (sellR s b w n q).2]):=by
 have c1:=refFindInst_spec s.roll n hs.roll.small;have cS:=fun w=>refState_spec s w hs.roll.small
 have c2:=refPrice_spec (instOf s.roll n);have ep:(if (instOf s.roll n).set==0 then (instOf s.roll n).price else (instOf s.roll n).set)=priceOf (instOf s.roll n):=rfl;have eh:(!((instOf s.roll n).set==0&&(instOf s.roll n).price==0))=hasPrice (instOf s.roll n):=rfl;rw [ep,eh] at c2;obtain ⟨x,hx⟩:=nmE (instOf s.roll n);have hbo:=bidsOf_len s w n s.bids;have c3:=refFill_spec q (bidsOf s w n s.bids) (by omega);have hfl:=fillR_len q (bidsOf s w n s.bids);obtain ⟨R,hR⟩:=nmE (sellR s b w n q);have hR0:=hR;simp only [sellR] at hR;obtain ⟨B,hB⟩:=nmE (bidsOf s w n s.bids);rw [<- hR0];rw [<- hx] at c1 c2 hR;rw [<- hB] at c3 hfl hbo hR;obtain ⟨f,hf⟩:=nmE ((fillR q B).1);obtain ⟨rest,hre⟩:=nmE ((fillR q B).2);rw [<- hf] at c3 hfl hR;rw [<- hre] at c3 hR;have c4:=refLegs19_spec w n (decide (0 < q)) f (by omega);have c5:=refAdd11_frozen b (flegL w n (decide (0 < q)) f) hb.small hb.rng (by have:=flegL_len w n (decide (0 < q)) f;omega);obtain ⟨g,hg⟩:=nmE (flegL w n (decide (0 < q)) f);have hA:sellA b w n (decide (0 < q)) f=if flegE f=0 then (addB b g,addE b g) else (b,flegE f):=by rw [hg];rfl
 rw [hA] at hR;rw [<- hg] at c4 c5;have hb1:=addB_fine hb g;obtain ⟨b1,hb1d⟩:=nmE (addB b g);rw [<- hb1d] at hR c5 hb1;obtain ⟨p,hp⟩:=nmE (priceOf x);rw [<- hp] at c2 hR;obtain ⟨long,hlong⟩:=nmE (decide (0 < q));rw [<- hlong] at c4 hR;have c6:=refTear_own b1 w n rest hb1.small hb1.rng hb1.short;have hFl:=tearL_len b1 w n rest;have hqs:=hb1.short;have hR2:sellT b1 w n p long rest=if tearE b1 w n rest=0 then sellA b1 w n long ((tearL b1 w n rest).map (atPrice p)) else (b1,tearE b1 w n rest):=rfl
 obtain ⟨F,hF⟩:=nmE (tearL b1 w n rest);rw [<- hF] at c6 hFl hR2;have c7:=refLegs19_spec w n long (F.map (atPrice p)) (by rw [lml];omega);have c8:=refAdd11_frozen b1 (flegL w n long (F.map (atPrice p))) hb1.small hb1.rng (by have:=flegL_len w n long (F.map (atPrice p));rw [lml] at this;omega);have hR3:sellA b1 w n long (F.map (atPrice p))=if flegE (F.map (atPrice p))=0 then (addB b1 (flegL w n long (F.map (atPrice p))),addE b1 (flegL w n long (F.map (atPrice p)))) else (b1,flegE (F.map (atPrice p))):=rfl
 rw [hR3] at hR2;obtain ⟨g2,hg2⟩:=nmE (flegL w n long (F.map (atPrice p)));rw [<- hg2] at c7 c8 hR2
 have hR4:R=if hasPrice x=true then (if fillE q B=0 then (if flegE f=0 then (if addE b g=0/\rest≠0 then sellT b1 w n p long rest else (b1,addE b g)) else (b,flegE f)) else (b,fillE q B)) else (b,20):=by
  rw [hR];by_cases h:flegE f=0<;>simp [h]
 rw [hR2] at hR4;clear hR;have hR:=hR4;clear hR4;obtain ⟨b2,hb2⟩:=nmE (addB b1 g2);obtain ⟨e1,he1⟩:=nmE (flegE f);obtain ⟨e2,he2⟩:=nmE (addE b g);obtain ⟨e3,he3⟩:=nmE (tearE b1 w n rest);obtain ⟨e4,he4⟩:=nmE (flegE (F.map (atPrice p)));obtain ⟨e5,he5⟩:=nmE (addE b1 g2);obtain ⟨e0,he0⟩:=nmE (fillE q B);rw [<- hb2,<- he5] at c8;rw [<- he4] at c7;rw [<- he3] at c6;rw [<- he2] at c5;rw [<- he1] at c4;rw [<- he0] at c3;rw [<- he0,<- he1,<- he2,<- he3,<- he4,<- he5,<- hb2] at hR;clear hR0 hx ep eh hf hre hA hg hb1d hp hR2 hR3 hF hg2 hb2 he1 he2 he3 he4 he5 he0 hb1;simp only [RollV.cells,InstV.cells] at c1 c2;simp only [StateV.cells] at cS |-;simp only [BookV.cells] at c5 c6 c8 |-;refine sgo 158 4 [.cell 8 33,.tmp 9] mixed Tryz.func297 ?_;simp only [go_sem,seval];(with_reducible and_intros)<;>first|exact .dq|omega|skip
 refine CallN.pure c1 ?_;simp only [go_sem,seval];(with_reducible and_intros)<;>first|exact .dq|omega|skip
 refine CallN.pure c2 ?_;cases q1:hasPrice x
 ·rw [q1,if_neg (by simp)] at hR;rw [hR];simp only [go_sem,seval,q1]
  all_goals (with_reducible and_intros)<;>first|exact .dq|omega|skip
 rw [q1,if_pos rfl] at hR;clear c1 c2;simp only [go_sem,seval,q1];(with_reducible and_intros)<;>first|exact .dq|omega|skip
 have hcut:∀ l,bidsOf s w n l=l.flatMap fun b=>if bidHit s w n b then [b] else []:=fun l=>rfl
 refine LoopK.walk (S:=Unit) s.bids.length [3,4,5,6,8,12] [80,96,112,144] (fun i _=>[(15,.int .i64 i),(14,.ref 1360)]) (fun i _=>[(1360,.own 5 ((bidsOf s w n (s.bids.take i)).map BidV.cells))]) (fun _ _=>True) () trivial ?_ ?_ ?_
 ·simp only [go_sem,seval]<;>simp [bidsOf]
 ·intro i _ hi hdi hwi _;have hm:=map_at (c:=BidV.cells) s.bids hi;have hli:(i:Int) < (s.bids.length:Int):=by omega
  have hs1:bidsOf s w n (s.bids.take (i+1))=bidsOf s w n (s.bids.take i)++_:=fm_step _ hi;have hl1:=bidsOf_len s w n (s.bids.take i);have hlt:(s.bids.take i).length=i:=by simp;omega
  obtain ⟨y,hy⟩:=nmE (s.bids[i]);obtain ⟨L,hL⟩:=nmE (bidsOf s w n (s.bids.take i));rw [<- hy] at hm hs1;rw [<- hL] at hs1 hl1 |-;have cS:=cS y.src;simp only [bidHit] at hs1;simp only [BidV.cells] at hm;clear c3 c4 c5 c6 c7 c8 hR;cases k1:y.who==w
  ·simp only [k1,Bool.false_and,bfe,if_false,List.append_nil] at hs1;simp only [go_sem,seval,lml,hdi,hm,k1,hwi];(with_reducible and_intros)<;>first|exact .dq|omega|skip
   refine RoundK.step () hi trivial ?_;simp only [go_sem,seval,hs1]
  cases k2:y.inst==n
  ·simp only [k1,k2,Bool.and_false,Bool.false_and,bfe,if_false,List.append_nil] at hs1;simp only [go_sem,seval,lml,hdi,hm,k1,k2,hwi];(with_reducible and_intros)<;>first|exact .dq|omega|skip
   refine RoundK.step () hi trivial ?_;simp only [go_sem,seval,hs1]
  simp only [go_sem,seval,lml,hdi,hm,k1,k2];(with_reducible and_intros)<;>first|exact .dq|omega|skip
  refine CallN.pure cS ?_;cases k3:stOf s.roll y.src==1
  ·simp only [k1,k2,k3,Bool.and_false,bfe,if_false,List.append_nil] at hs1;simp only [go_sem,seval,k3,hwi];(with_reducible and_intros)<;>first|exact .dq|omega|skip
   refine RoundK.step () hi trivial ?_;simp only [go_sem,seval,hs1]
  simp only [k1,k2,k3,Bool.and_self,if_true] at hs1;simp only [go_sem,seval,k3,lml,hm,hwi];(with_reducible and_intros)<;>first|exact .dq|omega|skip
  refine RoundK.step () hi trivial ?_;simp only [go_sem,seval,hs1]<;>simp
 intro _ hdx _;rw [List.take_length,<- hB];clear cS hcut;simp only [go_sem,seval,lml,hdx];(with_reducible and_intros)<;>first|exact .dq|omega|skip
 refine CallN.gen [1360] [] false (by simp) ?_;simp only [go_sem,seval];refine CallG.intro c3 ?_;clear c3 hdx
 by_cases k0:e0=0
 case neg =>
  have d:(e0==0)=false:=by simpa using k0
  rw [if_neg k0] at hR;rw [hR];simp only [go_sem,seval,bne,d]
  all_goals (with_reducible and_intros)<;>first|exact .dq|omega|skip
 rw [if_pos k0] at hR;rw [k0];simp only [go_sem,seval];(with_reducible and_intros)<;>first|exact .dq|omega|skip
 rw [<- hlong];refine CallN.pure c4 ?_;clear c4
 by_cases k1:e1=0
 case neg =>
  have d:(e1==0)=false:=by simpa using k1
  rw [if_neg k1] at hR;rw [hR];simp only [go_sem,seval,bne,d]
  all_goals (with_reducible and_intros)<;>first|exact .dq|omega|skip
 rw [if_pos k1] at hR;rw [k1];simp only [go_sem,seval];(with_reducible and_intros)<;>first|exact .dq|omega|skip
 refine CallN.pure c5 ?_;clear c5
 by_cases k2:e2=0
 case neg =>
  have d:(e2==0)=false:=by simpa using k2
  rw [if_neg (by rintro ⟨h,_⟩;exact k2 h)] at hR;rw [hR];simp only [go_sem,seval,bne,d]
  all_goals (with_reducible and_intros)<;>first|exact .dq|omega|skip
 by_cases k3:rest=0
 ·rw [if_neg (by rintro ⟨_,h⟩;exact h k3)] at hR;rw [hR,k3,k2];simp only [go_sem,seval,bne]
  all_goals (with_reducible and_intros)<;>first|exact .dq|omega|skip
 have d3:(rest==0)=false:=by simpa using k3
 rw [if_pos ⟨k2,k3⟩] at hR;rw [k2];simp only [go_sem,seval,bne,d3];(with_reducible and_intros)<;>first|exact .dq|omega|skip
 refine CallN.gen [] [] false (by simp) ?_;simp only [go_sem,seval];refine CallG.intro c6 ?_;clear c6;simp only [go_sem,seval,lml];(with_reducible and_intros)<;>first|exact .dq|omega|skip
 refine LoopK.walk (S:=Unit) F.length [3,5,6,8,12,18] [96,112,144] (fun i _=>[(20,.int .i64 i),(16,.ref 272)]) (fun i _=>[(272,.own 3 ((mixL (atPrice p) F i).map FillV.cells))]) (fun _ _=>True) () trivial ?_ ?_ ?_
 ·simp only [go_sem,seval,mixL_zero]<;>simp
 ·intro i _ hi hdi hwi _;have hlen:=mixL_len (atPrice p) F i;have hm:=map_at (c:=FillV.cells) (mixL (atPrice p) F i) (i:=i) (by omega);have hset:=mixL_set (atPrice p) hi;rw [mixL_at (atPrice p) hi] at hm;obtain ⟨y,hy⟩:=nmE (F[i]);obtain ⟨M,hM⟩:=nmE (mixL (atPrice p) F i);rw [<- hy] at hm hset;rw [<- hM] at hm hset hlen |-;have hset2:M.set i { y with price:=p }=mixL (atPrice p) F (i+1):=hset;have hli:(i:Int) < (F.length:Int):=by omega
  simp only [FillV.cells] at hm;clear c7 c8 hR;simp only [go_sem,seval,lml,hlen,hdi,hm,hwi];(with_reducible and_intros)<;>first|exact .dq|omega|skip
  all_goals first
   | omega
   | (refine RoundK.step () hi trivial ?_
      simp only [go_sem,seval,<- hset2,List.map_set])
 intro _ hdx _;have hlen:=mixL_len (atPrice p) F F.length;rw [mixL_all];rw [mixL_all,lml] at hlen
 by_cases k4:e3=0
 case neg =>
  have d:(e3==0)=false:=by simpa using k4
  rw [if_neg k4] at hR;rw [hR];simp only [go_sem,seval,lml,hdx,d]
  all_goals (with_reducible and_intros)<;>first|exact .dq|omega|skip
 rw [if_pos k4] at hR;rw [k4];simp only [go_sem,seval,lml,hdx];(with_reducible and_intros)<;>first|exact .dq|omega|skip
 refine CallN.gen [272] [] false (by simp) ?_;rw [<- hlong];simp only [go_sem,seval];refine CallG.intro c7 ?_;clear c7
 by_cases k5:e4=0
 case neg =>
  have d:(e4==0)=false:=by simpa using k5
  rw [if_neg k5] at hR;rw [hR];simp only [go_sem,seval,d]
  all_goals (with_reducible and_intros)<;>first|exact .dq|omega|skip
 rw [if_pos k5] at hR;rw [k5];simp only [go_sem,seval];(with_reducible and_intros)<;>first|exact .dq|omega|skip
 refine CallN.pure c8 ?_;rw [hR];simp only [go_sem,seval]
 all_goals (with_reducible and_intros)<;>first|exact .dq|omega|skip
def othersL (s:StateV) (w:Int):List Int:=pick (fun x=>!(x==w)) (fun x=>x) (thoseL s.roll [1])
theorem thoseL_len (r:RollV) (ss:List Int):(thoseL r ss).length<=r.ms.length:=pick_len _ _ _
theorem othersL_len (s:StateV) (w:Int):(othersL s w).length<=s.roll.ms.length:=Nat.le_trans (pick_len _ _ _) (thoseL_len _ _)
theorem refOthers22_own (s:StateV) (w:Int) (hs:s.small):Abs.Spec Tryz.prog 301 [] [.agg s.cells,.int .i64 w] [.own 1 (ints (othersL s w))] (.ref 0):=by
 have c1:=refThose_spec s.roll [1] hs.roll (by simp);have hl:=thoseL_len s.roll [1];have hml:=hs.roll.1;obtain ⟨l,hld⟩:=nmE (thoseL s.roll [1]);simp only [othersL];rw [<- hld] at c1 hl |-;simp only [RollV.cells,ints,List.map_cons,List.map_nil] at c1;have hE:(l.map fun x=>[D.int .i64 x])=ints l:=rfl;rw [hE] at c1;simp only [StateV.cells];clear hld hE;refine sgo 32 2 [.tmp 4] mixed Tryz.func301 ?_;simp only [go_sem,seval];(with_reducible and_intros)<;>first|exact .dq|omega|skip
 refine CallN.gen [176] [] false (by simp) ?_;simp only [go_sem,seval];refine CallG.intro c1 ?_;simp only [go_sem,seval,ints_len];(with_reducible and_intros)<;>first|exact .dq|omega|skip
 refine LoopK.walk (S:=Unit) l.length [1,6] [] (fun i _=>[(7,.int .i64 i),(5,.ref 496)]) (fun i _=>[(496,.own 1 (ints (pick (fun x=>!(x==w)) (fun x=>x) (l.take i))))]) (fun _ _=>True) () trivial ?_ ?_ ?_
 ·simp only [go_sem,seval]<;>simp [pick,ints]
 ·intro i _ hi hdi hwi _;have hm:=ints_at l hi;have hst:=pickI_step (fun x:Int=>!(x==w)) (fun x=>x) hi;have hlen:=pick_len (fun x:Int=>!(x==w)) (fun x=>x) (l.take i);have hlt:(l.take i).length=i:=by simp;omega
  have hli:(i:Int) < (l.length:Int):=by omega
  obtain ⟨L,hL⟩:=nmE (pick (fun x:Int=>!(x==w)) (fun x=>x) (l.take i));obtain ⟨x,hx⟩:=nmE (l[i]);rw [<- hx] at hm hst;rw [<- hL] at hst hlen |-;clear c1;cases q:x==w
  ·simp only [q,Bool.not_false,if_true] at hst;simp only [go_sem,seval,ints_len,hdi,hm,bne,q,hwi];(with_reducible and_intros)<;>first|exact .dq|omega|skip
   refine RoundK.step () hi trivial ?_;simp only [go_sem,seval,hst]
  ·simp only [q,Bool.not_true,bfe,if_false,List.append_nil] at hst;simp only [go_sem,seval,ints_len,hdi,hm,bne,q,hwi];(with_reducible and_intros)<;>first|exact .dq|omega|skip
   refine RoundK.step () hi trivial ?_;simp only [go_sem,seval,hst]
 ·intro _ hdx _;simp only [go_sem,seval,ints_len,hdx,List.take_length]
theorem refOthers22_spec (s:StateV) (w:Int) (hs:s.small):Abs.Spec Tryz.prog 301 [] [.agg s.cells,.int .i64 w] [] (.sl 1 (ints (othersL s w))):=by
 refine Spec.frozen (refOthers22_own s w hs) [0] rfl ?_;intro r;rcases r with _ | r<;>rfl
def soldB (s:StateV) (w c:Int) (p:Plg):Bool:=p.who==w&&(astOf1 s.roll p.asset).b==c
def soldP (s:StateV) (p:Plg):Int:=p.units*(astOf1 s.roll p.asset).c
def soldL (s:StateV) (w c:Int):List Int:=pick (soldB s w c) (soldP s) s.ps
def soldS (s:StateV) (w c:Int):Int:=sumL (soldL s w c)
def soldN (s:StateV) (w c:Int):Int:=if inR (soldS s w c) then soldS s w c else 0
theorem ast_rng {r:RollV} (h:r.okB=true) (n:Int):0<=(astOf1 r n).c/\(astOf1 r n).c<=1073741824:=by
 simp only [RollV.okB,bae] at h;refine getL_all (R:=fun a:AssetV=>0<=a.c/\a.c<=1073741824) (by decide) fun a ha=>?_
 have:=rises_ok h.2 a ha;simp only [AssetV.ok,within,bae,decide_eq_true_eq] at this;omega
theorem soldP_rng {s:StateV} (h1:s.roll.okB=true) (h2:checkB s.ps=true):∀ p∈s.ps,0<=soldP s p/\soldP s p<=1180591620717411303424:=fun p hp=>by
 have ha:=ast_rng h1 p.asset;have hu:=((check_good.1 h2).1 p hp).2;have h3:=mul_range (a:=p.units) (b:=(astOf1 s.roll p.asset).c) (A:=1099511627776) (B:=1073741824) (by omega) (by omega);have h4:=Int.mul_nonneg (show 0<=p.units by omega) ha.1;simp only [soldP];omega
theorem soldS_in2 {s:StateV} (h1:s.roll.okB=true) (h2:checkB s.ps=true) (hl:s.ps.length < 2 ^ 30) (w c:Int):in2 (soldS s w c)=true/\∀ n∈soldL s w c,in2 n=true:=by
 have hr:∀ n∈soldL s w c,0<=n/\n<=1180591620717411303424:=pick_all fun p hp=>soldP_rng h1 h2 p hp
 have hs:=sum_small (B:=1180591620717411303424) (by decide) hr;have hlen:(soldL s w c).length<=s.ps.length:=pick_len _ _ _;constructor
 ·have e:soldS s w c=sumL (soldL s w c):=rfl;rw [e];simp only [in2,bae,decide_eq_true_eq];constructor<;>omega
 ·intro n hn;have:=hr n hn;simp only [in2,bae,decide_eq_true_eq];omega
theorem refSold_spec (s:StateV) (w c:Int) (hs:s.small) (h1:s.roll.okB=true) (h2:checkB s.ps=true):Abs.Spec Tryz.prog 299 [] [.agg s.cells,.int .i64 w,.int .i64 c] [] (.tup [.int .i64 (soldN s w c),.bool (inR (soldS s w c))]):=by
 have cH:∀ n,Abs.Spec Tryz.prog 75 [] [.agg s.roll.cells,.int .i64 n] [] (.tup [.agg (astOf1 s.roll n).cells,.bool (astIs s.roll n)]):=fun n=>refHeld_spec s.roll n hs.roll.small
 obtain ⟨hin,hall⟩:=soldS_in2 h1 h2 hs.ps w c;have hll:(soldL s w c).length<=s.ps.length:=pick_len _ _ _;have hpl:=hs.ps;have cSum:=refSum_spec (soldL s w c) (by omega) hall;have cI:=refInt_spec (soldS s w c);have eS:sumL (soldL s w c)=soldS s w c:=rfl;rw [eS,hin,if_pos rfl] at cSum;have eN:(if inR (soldS s w c) then soldS s w c else 0)=soldN s w c:=rfl;rw [eN] at cI;have hast:=fun n=>ast_rng h1 n
 have hu:=fun p hp=>((check_good.1 h2).1 p hp).2
 simp only [wd] at cSum cI;simp only [StateV.cells];simp only [RollV.cells] at cH;clear h1 h2 hin hall eS eN;refine sgo 76 3 [.tmp 6,.tmp 7] mixed Tryz.func299 ?_;simp only [go_sem,seval,pl_len];refine LoopK.walk (S:=Unit) s.ps.length [1,2,3] [64] (fun i _=>[(9,.int .i64 i),(8,.ref 976)]) (fun i _=>[(976,.own 2 (wds (pick (soldB s w c) (soldP s) (s.ps.take i))))]) (fun _ _=>True) () trivial ?_ ?_ ?_
 ·simp only [go_sem,seval]<;>simp [pick,wds]
 ·intro i _ hi hdi hwi _;have hm:=pl_at s.ps hi;have hs1:=pick_step (soldB s w c) (soldP s) hi;have hlen:=pick_len (soldB s w c) (soldP s) (s.ps.take i);have hlt:(s.ps.take i).length=i:=by simp;omega
  have hli:(i:Int) < (s.ps.length:Int):=by omega
  have hui:=hu _ (List.getElem_mem hi);obtain ⟨L,hL⟩:=nmE (pick (soldB s w c) (soldP s) (s.ps.take i));obtain ⟨x,hx⟩:=nmE (s.ps[i]);rw [<- hx] at hm hs1 hui;rw [<- hL] at hs1 hlen |-;have cHi:=cH x.asset;have hai:=hast x.asset;simp only [soldB,soldP] at hs1;obtain ⟨a,ha⟩:=nmE (astOf1 s.roll x.asset);rw [<- ha] at cHi hai;simp only [<- ha] at hs1;have cT:=refTimesI x.units a.c ⟨by omega,by omega⟩ ⟨by omega,by omega⟩;have hwl:(wds L).length<=i:=by rw [wds_len];omega
  simp only [AssetV.cells] at cHi;simp only [wd] at cT;clear cH cSum cI hast hu;simp only [go_sem,seval,pl_len,hdi,hm];(with_reducible and_intros)<;>first|exact .dq|omega|skip
  refine CallN.pure cHi ?_;cases q1:x.who==w
  ·simp only [q1,Bool.false_and,bfe,if_false,List.append_nil] at hs1;simp only [go_sem,seval,pl_len,hm,q1,hwi];(with_reducible and_intros)<;>first|exact .dq|omega|skip
   refine RoundK.step () hi trivial ?_;simp only [go_sem,seval,hs1]
  cases q2:a.b==c
  ·simp only [q1,q2,Bool.and_false,bfe,if_false,List.append_nil] at hs1;simp only [go_sem,seval,pl_len,hm,q1,q2,hwi];(with_reducible and_intros)<;>first|exact .dq|omega|skip
   refine RoundK.step () hi trivial ?_;simp only [go_sem,seval,hs1]
  simp only [q1,q2,Bool.and_self,if_true] at hs1;simp only [go_sem,seval,pl_len,hm,q1,q2];(with_reducible and_intros)<;>first|exact .dq|omega|skip
  refine CallN.pure cT ?_;simp only [go_sem,seval,hwi];(with_reducible and_intros)<;>first|exact .dq|omega|skip
  refine RoundK.step () hi trivial ?_;simp only [go_sem,seval,hs1]<;>simp [wds,wd]
 ·intro _ hdx _;simp only [go_sem,seval,pl_len,hdx,List.take_length];(with_reducible and_intros)<;>first|exact .dq|omega|skip
  refine CallN.gen [] [] true (by simp) ?_;simp only [go_sem,seval];refine CallG.intro cSum ?_;simp only [go_sem,seval];(with_reducible and_intros)<;>first|exact .dq|omega|skip
  refine CallN.pure cI ?_;simp only [go_sem,seval]
  all_goals (with_reducible and_intros)<;>first|exact .dq|omega|skip
def posStep (s:StateV) (w:Int) (b:BookV) (n:Int):BookV × Int:=if (posOf w n b.qs).qty==0 then (b,0) else sellR s b w n (posOf w n b.qs).qty
def posG (s:StateV) (w:Int):Nat->Nat->BookV->BookV × Int
 | 0,_,b=>(b,0)
 | m+1,i,b=>if (posStep s w b ((i:Int)+1)).2=0 then posG s w m (i+1) (posStep s w b ((i:Int)+1)).1 else ((posStep s w b ((i:Int)+1)).1,(posStep s w b ((i:Int)+1)).2)
def keepP (w:Int) (l:List PosV):List PosV:=l.flatMap fun p=>if p.who==w then [] else [p]
def winD (s:StateV) (w:Int) (p:PosV):List DueV:=if p.who==w then [⟨w,(instOf s.roll p.inst).cur,worthS p (instOf s.roll p.inst).mult 0⟩] else []
def winsL (s:StateV) (w:Int) (l:List PosV):List DueV:=l.flatMap (winD s w)
def winB (s:StateV) (w:Int) (l:List PosV):Bool:=l.all fun p=>!(p.who==w)||inR (worthS p (instOf s.roll p.inst).mult 0)
def posnE (s:StateV) (w:Int):Int:=if mayE s w=0 then (if (posG s w 8 0 s.book).2=0 then (if winB s w (posG s w 8 0 s.book).1.qs then 0 else 1) else (posG s w 8 0 s.book).2) else mayE s w
def posnB (s:StateV) (w:Int):BookV:=if posnE s w=0 then ⟨(posG s w 8 0 s.book).1.next,(posG s w 8 0 s.book).1.ts,keepP w (posG s w 8 0 s.book).1.qs⟩ else ⟨0,[],[]⟩
def posnD (s:StateV) (w:Int):List DueV:=if posnE s w=0 then winsL s w (posG s w 8 0 s.book).1.qs else []
theorem posStep_fine {s:StateV} {w:Int} {b:BookV} (hb:b.fine) (n:Int):(posStep s w b n).1.fine:=by
 unfold posStep;split
 ·exact hb
 ·exact sellR_fine hb _ _ _
theorem posG_fine {s:StateV} {w:Int}:∀ (m i:Nat) {b:BookV},b.fine->(posG s w m i b).1.fine
 | 0,_,_,hb=>hb
 | m+1,i,b,hb=>by
  simp only [posG];split
  ·exact posG_fine m _ (posStep_fine hb _)
  ·exact posStep_fine hb _
theorem mayE_ok {s:StateV} {w:Int} (h:mayE s w=0):rightS s=true/\stOf s.roll w=2:=by
 unfold mayE at h;split at h
 ·split at h
  ·cases h
  ·split at h
   ·exact ⟨by assumption,by assumption⟩
   ·cases h
 ·cases h
theorem right_parts {s:StateV} (h:rightS s=true):s.roll.okB=true/\s.book.okB=true/\s.led.okB=true/\checkB s.ps=true/\chB callOk callLt s.calls=true:=by
 simp only [rightS,bae] at h;exact ⟨h.2.1,h.2.2.1,h.2.2.2.1,h.2.2.2.2.1,h.2.2.2.2.2.1⟩
theorem mult_rng {r:RollV} (h:r.okB=true) (n:Int):0<=(instOf r n).mult/\(instOf r n).mult<=1024:=by
 simp only [RollV.okB,bae] at h;refine getL_all (R:=fun x:InstV=>0<=x.mult/\x.mult<=1024) (by decide) fun x hx=>?_
 have:=rises_ok h.1.2 x hx;simp only [InstV.ok,within,bae,decide_eq_true_eq] at this;omega
theorem book_fine {b:BookV} (h:b.okB=true) (hs:b.small) (hq:b.qs.length < 2 ^ 20) (hr:∀ p∈b.qs,p.rng):b.fine:=
 ⟨hs,hq,hr,fun p hp=>by have:=pos_nums (book_pos h p hp);exact ⟨⟨this.1,this.2.1⟩,this.2.2⟩⟩
theorem refPositions_own (s:StateV) (w:Int) (hs:s.small) (hr:s.rng) (hq:s.book.qs.length < 2 ^ 20) (hbl:s.bids.length < 2 ^ 20):Abs.Spec Tryz.prog 246 [] [.agg s.cells,.int .i64 w] [.own 4 ((posnB s w).qs.map PosV.cells),.own 3 ((posnD s w).map DueV.cells)] (.tup [.agg [.int .i64 (posnB s w).next,.sl 7 ((posnB s w).ts.map TradeV.cells),.ref 0],.ref 1,.int .i64 (posnE s w)]):=by
 have c1:=refMay_spec s w hs hr;have c2:=twinBook_frozen s.book hs.book;have cSell:=fun b n q hb=>refSell_spec s b w n q hs hb hbl
 have cI:=fun n=>refFindInst_spec s.roll n hs.roll.small
 have hme:=@mayE_ok s w;simp only [posnB,posnD,posnE];obtain ⟨me,hmed⟩:=nmE (mayE s w);rw [<- hmed] at c1 hme;simp only [<- hmed];have c1':=c1;simp only [StateV.cells] at c1 cSell |-;simp only [BookV.cells] at c2;simp only [RollV.cells] at cI;clear c1' hmed;refine sgo 110 2 [.cell 4 33,.tmp 5,.tmp 6] mixed Tryz.func246 ?_;simp only [go_sem,seval];(with_reducible and_intros)<;>first|exact .dq|omega|skip
 refine CallN.pure c1 ?_;clear c1
 by_cases b1:me=0
 case neg =>
  have d:(me==0)=false:=by simpa using b1
  simp only [if_neg b1];simp only [go_sem,seval,bne,d]
  all_goals simp
 obtain ⟨hright,_⟩:=hme b1;obtain ⟨hroll,hbook,_⟩:=right_parts hright;have hfine:=book_fine hbook hs.book hq hr.qs;have hmu:=fun n=>mult_rng hroll n
 simp only [b1,if_true];obtain ⟨R,hR⟩:=nmE (posG s w 8 0 s.book);have hRf:R.1.fine:=by rw [hR];exact posG_fine 8 0 hfine
 simp only [<- hR];clear hme hright hroll hbook b1;simp only [go_sem,seval];(with_reducible and_intros)<;>first|exact .dq|omega|skip
 refine CallN.pure c2 ?_;clear c2;simp only [go_sem,seval];(with_reducible and_intros)<;>first|exact .dq|omega|skip
 refine LoopK.walk (S:=BookV) 8 [1,2,4,8] [48,80] (fun i _=>[(9,.int .i64 ((i:Int)+1))]) (fun _ b=>[(144,.box [.int .i64 b.next,.sl 7 (b.ts.map TradeV.cells),.sl 4 (b.qs.map PosV.cells)])]) (fun i b=>posG s w (8-i) i b=R/\b.fine) s.book ⟨hR.symm,hfine⟩ ?_ ?_ ?_
 ·simp only [go_sem,seval]<;>simp
 ·rintro i b hi _ _ ⟨hI,hb⟩
  obtain ⟨n,hn⟩:=nmE ((i:Int)+1);have hd:decide (n<=8)=true:=decide_eq_true (by omega);have hwn:IntKind.wrap .i64 (n+1)=((i+1:Nat):Int)+1:=by rw [wr64 (by omega) (by omega)];omega
  obtain ⟨m,hm⟩:∃ m,8-i=m+1:=⟨8-i-1,by omega⟩
  have hm2:8-(i+1)=m:=by omega
  rw [hm] at hI;simp only [posG,<- hn] at hI;have hsf:=posStep_fine (s:=s) (w:=w) hb n;have c3:=refOf11_spec b w n hb.small;have c4:=cSell b n (posOf w n b.qs).qty hb;have hst:posStep s w b n=if (posOf w n b.qs).qty==0 then (b,0) else sellR s b w n (posOf w n b.qs).qty:=rfl
  obtain ⟨p,hp⟩:=nmE (posOf w n b.qs);rw [<- hp] at c3 c4 hst;rw [<- hn];simp only [BookV.cells,PosV.cells] at c3 c4;clear cSell cI hp;cases q1:p.qty==0
  case true =>
   simp only [q1,if_true] at hst;rw [hst] at hI;simp only [if_true] at hI;simp only [go_sem,seval,hd];(with_reducible and_intros)<;>first|exact .dq|omega|skip
   refine CallN.pure c3 ?_;simp only [go_sem,seval,q1,hwn];(with_reducible and_intros)<;>first|exact .dq|omega|skip
   refine RoundK.step b hi ⟨by rw [hm2];exact hI,hb⟩ ?_;simp only [go_sem,seval]
  simp only [q1,bfe,if_false] at hst;rw [hst] at hI hsf;obtain ⟨X,hX⟩:=nmE (sellR s b w n p.qty);rw [<- hX] at hI hsf c4;simp only [go_sem,seval,hd];(with_reducible and_intros)<;>first|exact .dq|omega|skip
  refine CallN.pure c3 ?_;simp only [go_sem,seval,q1];(with_reducible and_intros)<;>first|exact .dq|omega|skip
  refine CallN.pure c4 ?_
  by_cases q2:X.2=0
  ·rw [if_pos q2] at hI;rw [q2];simp only [go_sem,seval,bne,hwn];(with_reducible and_intros)<;>first|exact .dq|omega|skip
   refine RoundK.step X.1 hi ⟨by rw [hm2];exact hI,hsf⟩ ?_;simp only [go_sem,seval]
  ·have d:(X.2==0)=false:=by simpa using q2
   rw [if_neg q2] at hI;have hR2:R.2=X.2:=by rw [<- hI]
   simp only [hR2,if_neg q2];simp only [go_sem,seval,bne,d]
   all_goals simp
 ·rintro b _ ⟨hI,hb⟩
  have hI:(b,0)=R:=hI;simp only [<- hI,if_true];have c5:=twinBook_frozen b hb.small;have hbs:=hb.small.2;simp only [BookV.cells] at c5;clear cSell hI hRf hR;have ecut:(if (if winB s w b.qs=true then (0:Int) else 1)=0 then (⟨b.next,b.ts,keepP w b.qs⟩:BookV) else ⟨0,[],[]⟩)=if winB s w b.qs=true then ⟨b.next,b.ts,keepP w b.qs⟩ else ⟨0,[],[]⟩:=by cases winB s w b.qs<;>rfl
  have ecut2:(if (if winB s w b.qs=true then (0:Int) else 1)=0 then winsL s w b.qs else [])=if winB s w b.qs=true then winsL s w b.qs else []:=by cases winB s w b.qs<;>rfl
  rw [ecut,ecut2];clear ecut ecut2;simp only [go_sem,seval];(with_reducible and_intros)<;>first|exact .dq|omega|skip
  refine CallN.pure c5 ?_;clear c5;simp only [go_sem,seval,lml];(with_reducible and_intros)<;>first|exact .dq|omega|skip
  refine LoopK.walk (S:=Unit) b.qs.length [1,2,4,8,12] [48,80,144] (fun i _=>[(14,.int .i64 i),(13,.ref 1728)]) (fun i _=>[(208,.box [.int .i64 b.next,.sl 7 (b.ts.map TradeV.cells),.ref 1280]),(1280,.own 4 ((keepP w (b.qs.take i)).map PosV.cells)),(1728,.own 3 ((winsL s w (b.qs.take i)).map DueV.cells))]) (fun i _=>winB s w (b.qs.drop i)=winB s w b.qs) () rfl ?_ ?_ ?_
  ·simp only [go_sem,seval]<;>simp [keepP,winsL]
  ·intro i _ hi hdi hwi hI;have hm:=map_at (c:=PosV.cells) b.qs hi;have hli:(i:Int) < (b.qs.length:Int):=by omega
   have hlt:(b.qs.take i).length=i:=by simp;omega
   have hs1:keepP w (b.qs.take (i+1))=keepP w (b.qs.take i)++_:=fm_step _ hi;have hs2:winsL s w (b.qs.take (i+1))=winsL s w (b.qs.take i)++_:=fm_step _ hi;have hl1:(keepP w (b.qs.take i)).length<=1*(b.qs.take i).length:=fm_len (fun p=>by split<;>simp) _;have hl2:(winsL s w (b.qs.take i)).length<=1*(b.qs.take i).length:=fm_len (fun p=>by unfold winD;split<;>simp) _;have hxo:=hb.ok _ (List.getElem_mem hi);obtain ⟨x,hx⟩:=nmE (b.qs[i]);obtain ⟨K,hK⟩:=nmE (keepP w (b.qs.take i));obtain ⟨V,hV⟩:=nmE (winsL s w (b.qs.take i));rw [drop_at hi,<- hx] at hI;rw [<- hx] at hm hs1 hs2 hxo;rw [<- hK] at hs1 hl1;rw [<- hV] at hs2 hl2;rw [<- hK,<- hV];have hc:winB s w (x :: b.qs.drop (i+1))=((!(x.who==w)||inR (worthS x (instOf s.roll x.inst).mult 0))&&winB s w (b.qs.drop (i+1))):=rfl;rw [hc] at hI;have cIx:=cI x.inst;have hmux:=hmu x.inst;simp only [winD] at hs2;obtain ⟨y,hy⟩:=nmE (instOf s.roll x.inst);rw [<- hy] at cIx hmux hI;simp only [<- hy] at hs2;have cW:=refWorth_spec x y.mult 0 ⟨by omega,by omega⟩ hxo.2 hmux ⟨by omega,by omega⟩;simp only [PosV.cells] at hm cW;simp only [InstV.cells] at cIx;clear cI hmu hK hV hy;cases q1:x.who==w
   ·simp only [q1,bfe,if_false,List.append_nil] at hs1 hs2;simp only [q1,Bool.not_false,Bool.true_or,Bool.true_and] at hI;simp only [go_sem,seval,lml,hdi,hm,bne,q1,hwi];(with_reducible and_intros)<;>first|exact .dq|omega|skip
    refine RoundK.step () hi hI ?_;simp only [go_sem,seval,hs1,hs2]<;>simp
   simp only [q1,if_true,List.append_nil] at hs1 hs2;simp only [q1,Bool.not_true,Bool.false_or] at hI;simp only [go_sem,seval,lml,hdi,hm,bne,q1];(with_reducible and_intros)<;>first|exact .dq|omega|skip
   refine CallN.pure cIx ?_;simp only [go_sem,seval];(with_reducible and_intros)<;>first|exact .dq|omega|skip
   refine CallN.pure cW ?_;cases q2:inR (worthS x y.mult 0)
   ·rw [q2,Bool.false_and] at hI;rw [<- hI];simp only [go_sem,seval,q2]
    all_goals simp
   rw [q2,Bool.true_and] at hI;simp only [go_sem,seval,q2,hwi,lml,if_true];(with_reducible and_intros)<;>first|exact .dq|omega|skip
   refine RoundK.step () hi hI ?_;simp only [go_sem,seval,hs1,hs2]<;>simp
  ·intro _ hdx hI;rw [List.drop_length] at hI;rw [<- hI,show winB s w []=true from rfl];simp only [go_sem,seval,lml,hdx,List.take_length]
   all_goals simp
theorem refPositions_spec (s:StateV) (w:Int) (hs:s.small) (hr:s.rng) (hq:s.book.qs.length < 2 ^ 20) (hbl:s.bids.length < 2 ^ 20):Abs.Spec Tryz.prog 246 [] [.agg s.cells,.int .i64 w] [] (.tup [.agg (posnB s w).cells,.sl 3 ((posnD s w).map DueV.cells),.int .i64 (posnE s w)]):=by
 refine Spec.frozen (refPositions_own s w hs hr hq hbl) [0,1] rfl ?_;intro r;rcases r with _ | _ | r<;>rfl
def capX (s:StateV) (w c gain:Int):Int:=sumL [gain,min (ofL ⟨2,w,c⟩ s.led.bs) 0]
def capF (s:StateV) (w c gain:Int):Int:=sumL [max (ofL ⟨2,w,c⟩ s.led.bs) 0,soldN s w c,max (capX s w c gain) 0]
def capsOk (s:StateV) (w c gain:Int):Bool:=(inR (soldS s w c)&&inR (capX s w c gain))&&(inR (capF s w c gain)&&(sharesE s.led c (othersL s w)==0&&needsE s.roll (othersL s w)==0))
def capsE (s:StateV) (w c gain:Int):Int:=if rightS s then (if stOf s.roll w=0 then 10 else if within c 0 2&&inR gain then (if capsOk s w c gain then 0 else 1) else 3) else 14
def capsL (s:StateV) (w c gain:Int):List Int:=if capsE s w c gain=0 then [capF s w c gain,ofL ⟨3,w,c⟩ s.led.bs,ofL ⟨4,0,c⟩ s.led.bs,sharesN s.led c (othersL s w),needsN s.roll (othersL s w)] else []
def capsN (s:StateV) (w c gain:Int):Int:=if capsE s w c gain=0 then max (-capX s w c gain) 0 else 0
theorem addN_of {l:List Int} (h:inR (sumL l)=true):addN l=sumL l:=by simp [addN,h]
theorem soldN_in (s:StateV) (w c:Int):inR (soldN s w c)=true:=by
 unfold soldN;split
 ·assumption
 ·rfl
theorem refCaps_own (s:StateV) (w c gain:Int) (hs:s.small) (hr:s.rng) (hm:s.roll.ms.length < 2 ^ 27):Abs.Spec Tryz.prog 248 [] [.agg s.cells,.int .i64 w,.int .i64 c,.int .i64 gain] [.own 1 (ints (capsL s w c gain))] (.tup [.int .i64 (capsN s w c gain),.ref 0,.int .i64 (capsE s w c gain)]):=by
 have c1:=refRightS_spec s hs hr;have c2:=refState_spec s w hs.roll.small;have c3:=refCur_spec c;have c4:=refRight_spec gain;have cA:=fun k w=>acct22_spec k w c
 have cO:=fun a=>ref8Of_spec s.led a hs.led
 have c5:=refOthers22_spec s w hs;have hol:=othersL_len s w;have c6:=refShares_spec s.led c (othersL s w) hs.led hr.bs (by omega);have c7:=refNeeds_spec s.roll (othersL s w) hs.roll hr.ms (by omega);have cSold:=refSold_spec s w c hs;have hrp:=@right_parts s;simp only [AcctV.cells,LedV.cells] at cO;simp only [LedV.cells] at c6;simp only [RollV.cells] at c7;obtain ⟨t,ht⟩:=nmE (stOf s.roll w);obtain ⟨E,hE⟩:=nmE (capsE s w c gain);have hE0:=hE;simp only [capsE,<- ht] at hE;simp only [capsL,capsN,<- hE0];rw [<- ht] at c2;simp only [StateV.cells] at c1 c2 c5 cSold |-;clear ht hE0 hol;refine sgo 120 4 [.tmp 8,.tmp 9,.tmp 10] mixed Tryz.func248 ?_;simp only [go_sem,seval];(with_reducible and_intros)<;>first|exact .dq|omega|skip
 refine CallN.pure c1 ?_;clear c1;cases b1:rightS s
 ·rw [b1,if_neg (by simp)] at hE;rw [hE];simp only [go_sem,seval,b1]<;>simp [ints]
 obtain ⟨hroll,hbook,hled,hps,_⟩:=hrp b1;have cSold:=cSold hroll hps;rw [b1,if_pos rfl] at hE;simp only [go_sem,seval,b1];(with_reducible and_intros)<;>first|exact .dq|omega|skip
 refine CallN.pure c2 ?_;clear c2
 by_cases b2:t=0
 ·rw [if_pos b2] at hE;rw [hE,b2];simp only [go_sem,seval]<;>simp [ints]
 have d2:(t==0)=false:=by simpa using b2
 rw [if_neg b2] at hE;simp only [go_sem,seval,d2];(with_reducible and_intros)<;>first|exact .dq|omega|skip
 refine CallN.pure c3 ?_;clear c3;cases b3:within c 0 2
 ·rw [b3,Bool.false_and,if_neg (by simp)] at hE;rw [hE];simp only [go_sem,seval]<;>simp [ints]
 simp only [go_sem,seval];(with_reducible and_intros)<;>first|exact .dq|omega|skip
 refine CallN.pure c4 ?_;clear c4;cases b4:inR gain
 ·rw [b4,Bool.and_false,if_neg (by simp)] at hE;rw [hE];simp only [go_sem,seval]<;>simp [ints]
 rw [b3,b4,Bool.and_self,if_pos rfl] at hE;have hg:=inR_iff.1 b4;have hcash:=led_of_in hled ⟨2,w,c⟩;have hcr:=inR_iff.1 hcash;have c8:=refAdd_spec [gain,min (ofL ⟨2,w,c⟩ s.led.bs) 0] (by intro n hn;simp only [List.mem_cons,List.not_mem_nil,or_false] at hn;rcases hn with rfl | rfl<;>exact ⟨by omega,by omega⟩) (by simp);have eX:sumL [gain,min (ofL ⟨2,w,c⟩ s.led.bs) 0]=capX s w c gain:=rfl;have hX:inR (capX s w c gain)=true->addN [gain,min (ofL ⟨2,w,c⟩ s.led.bs) 0]=capX s w c gain:=fun h=>addN_of h
 have hsn:=inR_iff.1 (soldN_in s w c);have c9:=fun (h:inR (capX s w c gain)=true)=>refAdd_spec [max (ofL ⟨2,w,c⟩ s.led.bs) 0,soldN s w c,max (capX s w c gain) 0] (by have:=inR_iff.1 h;intro n hn;simp only [List.mem_cons,List.not_mem_nil,or_false] at hn;rcases hn with rfl | rfl | rfl<;>exact ⟨by omega,by omega⟩) (by simp)
 have eF:sumL [max (ofL ⟨2,w,c⟩ s.led.bs) 0,soldN s w c,max (capX s w c gain) 0]=capF s w c gain:=rfl;have hF:inR (capF s w c gain)=true->addN [max (ofL ⟨2,w,c⟩ s.led.bs) 0,soldN s w c,max (capX s w c gain) 0]=capF s w c gain:=fun h=>addN_of h
 rw [eX] at c8;simp only [eF] at c9;simp only [capsOk] at hE;simp only [ints,List.map_cons,List.map_nil] at c8 c9;have cO2:=cO ⟨2,w,c⟩;have cO3:=cO ⟨3,w,c⟩;have cO4:=cO ⟨4,0,c⟩;obtain ⟨ca,hca⟩:=nmE (ofL ⟨2,w,c⟩ s.led.bs);obtain ⟨ow,how⟩:=nmE (ofL ⟨3,w,c⟩ s.led.bs);obtain ⟨sk,hsk⟩:=nmE (ofL ⟨4,0,c⟩ s.led.bs);obtain ⟨X,hXd⟩:=nmE (capX s w c gain);obtain ⟨F,hFd⟩:=nmE (capF s w c gain);simp only [<- hca,<- hXd,<- hFd] at c8 c9 hX hF hE;rw [<- hca] at cO2;rw [<- how] at cO3;rw [<- hsk] at cO4;simp only [<- hXd,<- hFd,<- how,<- hsk];clear eX eF hcash hcr hca how hsk hXd hFd cO hg hsn;simp only [go_sem,seval];(with_reducible and_intros)<;>first|exact .dq|omega|skip
 refine CallN.pure (cA 2 w) ?_;simp only [go_sem,seval];(with_reducible and_intros)<;>first|exact .dq|omega|skip
 refine CallN.pure cO2 ?_;simp only [go_sem,seval];(with_reducible and_intros)<;>first|exact .dq|omega|skip
 refine CallN.pure cSold ?_;simp only [go_sem,seval];(with_reducible and_intros)<;>first|exact .dq|omega|skip
 refine CallN.gen [] [] true (by simp) ?_;simp only [go_sem,seval];refine CallG.intro c8 ?_;cases k1:inR (soldS s w c)
 ·rw [k1,Bool.false_and,Bool.false_and,if_neg (by simp)] at hE;rw [hE];simp only [go_sem,seval,k1]<;>simp [ints]
 cases k2:inR X
 ·rw [k1,k2,Bool.and_false,Bool.false_and,if_neg (by simp)] at hE;rw [hE];simp only [go_sem,seval,k1,k2]<;>simp [ints]
 have hXr:=inR_iff.1 k2;have hX:=hX k2;have c9:=c9 k2;rw [hX];rw [k1,k2,Bool.and_self,Bool.true_and] at hE;simp only [go_sem,seval,k1,k2];(with_reducible and_intros)<;>first|exact .dq|omega|skip
 refine CallN.gen [] [] true (by simp) ?_;simp only [go_sem,seval];refine CallG.intro c9 ?_;simp only [go_sem,seval];(with_reducible and_intros)<;>first|exact .dq|omega|skip
 refine CallN.pure c5 ?_;simp only [go_sem,seval];(with_reducible and_intros)<;>first|exact .dq|omega|skip
 refine CallN.pure c6 ?_;simp only [go_sem,seval];(with_reducible and_intros)<;>first|exact .dq|omega|skip
 refine CallN.pure c5 ?_;simp only [go_sem,seval];(with_reducible and_intros)<;>first|exact .dq|omega|skip
 refine CallN.pure c7 ?_;cases k3:inR F
 ·rw [k3,Bool.false_and,if_neg (by simp)] at hE;rw [hE];simp only [go_sem,seval,k3]<;>simp [ints]
 have hF:=hF k3;cases k4:sharesE s.led c (othersL s w)==0
 ·rw [k3,k4,Bool.false_and,Bool.and_false,if_neg (by simp)] at hE;rw [hE];simp only [go_sem,seval,k3,bne,k4]<;>simp [ints]
 cases k5:needsE s.roll (othersL s w)==0
 ·rw [k3,k4,k5,Bool.and_false,Bool.and_false,if_neg (by simp)] at hE;rw [hE];simp only [go_sem,seval,k3,bne,k4,k5]<;>simp [ints]
 rw [k3,k4,k5,Bool.and_self,Bool.and_self,if_pos rfl] at hE;have hw:IntKind.wrap .i64 (0-X) = -X:=by rw [wr64 (by omega) (by omega)];omega
 rw [hE,hF];simp only [go_sem,seval,k3,bne,k4,k5,hw];(with_reducible and_intros)<;>first|exact .dq|omega|skip
 refine CallN.pure (cA 3 w) ?_;simp only [go_sem,seval];(with_reducible and_intros)<;>first|exact .dq|omega|skip
 refine CallN.pure cO3 ?_;simp only [go_sem,seval];(with_reducible and_intros)<;>first|exact .dq|omega|skip
 refine CallN.pure (cA 4 0) ?_;simp only [go_sem,seval];(with_reducible and_intros)<;>first|exact .dq|omega|skip
 refine CallN.pure cO4 ?_;simp only [go_sem,seval]<;>simp [ints]
theorem refCaps_spec (s:StateV) (w c gain:Int) (hs:s.small) (hr:s.rng) (hm:s.roll.ms.length < 2 ^ 27):Abs.Spec Tryz.prog 248 [] [.agg s.cells,.int .i64 w,.int .i64 c,.int .i64 gain] [] (.tup [.int .i64 (capsN s w c gain),.sl 1 (ints (capsL s w c gain)),.int .i64 (capsE s w c gain)]):=by
 refine Spec.frozen (refCaps_own s w c gain hs hr hm) [0] rfl ?_;intro r;rcases r with _ | r<;>rfl
def chgA (s:StateV) (w c gain:Int) (f:FallV):List LegV:=
 moveL ⟨1,0,c⟩ ⟨2,w,c⟩ (soldN s w c)++moveL ⟨5,0,c⟩ ⟨2,w,c⟩ gain++moveL ⟨6,0,c⟩ ⟨2,w,c⟩ f.loss++moveL ⟨2,w,c⟩ ⟨6,0,c⟩ f.c0++moveL ⟨3,w,c⟩ ⟨6,0,c⟩ f.c1++moveL ⟨4,0,c⟩ ⟨6,0,c⟩ f.c2
def chgB (s:StateV) (w c gain:Int) (f:FallV) (x y:Int):List LegV:=
 chgA s w c gain f++levyL s.led c f.c3 (othersL s w)++assessL s.roll c f.c4 (othersL s w)++moveL ⟨2,w,c⟩ ⟨1,0,c⟩ x++moveL ⟨3,w,c⟩ ⟨1,0,c⟩ y
def chargeR (s:StateV) (w c gain:Int) (f:FallV) (a b:Int):List LegV × Int × Int:=
 if levyE s.led c f.c3 (othersL s w)=0 then (if assessE s.roll c f.c4 (othersL s w)=0 then (if inR (a-f.c0+(b-f.c1)) then (joinL (chgB s w c gain f (a-f.c0) (b-f.c1)),a-f.c0+(b-f.c1),joinE (chgB s w c gain f (a-f.c0) (b-f.c1))) else ([],0,1)) else ([],0,assessE s.roll c f.c4 (othersL s w))) else ([],0,levyE s.led c f.c3 (othersL s w))
theorem joinL_len (l:List LegV):(joinL l).length<=306:=by
 unfold joinL;split
 ·exact Nat.le_trans (joinA_len _ _) allA_len
 ·simp
theorem bornL_len (k c n all:Int) (ws gs:List Int):(bornL k c n all ws gs).length<=306:=by
 unfold bornL;split
 ·exact joinL_len _
 ·simp
theorem levyL_len (l:LedV) (c n:Int) (ws:List Int):(levyL l c n ws).length<=306:=by
 unfold levyL;split
 ·exact bornL_len _ _ _ _ _ _
 ·simp
theorem assessL_len (r:RollV) (c n:Int) (ws:List Int):(assessL r c n ws).length<=306:=by
 unfold assessL;split
 ·exact bornL_len _ _ _ _ _ _
 ·simp
theorem refCharge_spec (s:StateV) (w c gain:Int) (f:FallV) (caps:List Int) (a b:Int) (rest:List Int) (hcaps:caps=a :: b :: rest) (hrl:rest.length < 2 ^ 20) (hs:s.small) (hr:s.rng) (hm:s.roll.ms.length < 2 ^ 27) (h1:s.roll.okB=true) (h2:checkB s.ps=true) (hx:I64 (a-f.c0)) (hy:I64 (b-f.c1)) :
  Abs.Spec Tryz.prog 250 [] [.agg s.cells,.int .i64 w,.int .i64 c,.int .i64 gain,.agg f.cells,.sl 1 (ints caps)] [] (.tup [.sl 4 ((chargeR s w c gain f a b).1.map LegV.cells),.int .i64 (chargeR s w c gain f a b).2.1,.int .i64 (chargeR s w c gain f a b).2.2]):=by
 have cA:=fun k w=>acct22_spec k w c
 have cM:=fun x y n=>ref8Move_spec x y n
 have cSold:=refSold_spec s w c hs h1 h2;have c5:=refOthers22_spec s w hs;have hol:=othersL_len s w;have c6:=refLevy_spec s.led c f.c3 (othersL s w) hs.led hr.bs (by omega);have c7:=refAssess_spec s.roll c f.c4 (othersL s w) hs.roll hr.ms (by omega);have c8:=refAdd_spec [a-f.c0,b-f.c1] (by intro n hn;simp only [List.mem_cons,List.not_mem_nil,or_false] at hn;rcases hn with rfl | rfl<;>assumption) (by simp);have eX:sumL [a-f.c0,b-f.c1]=a-f.c0+(b-f.c1):=by simp [sumL]
 have hw1:IntKind.wrap .i64 (a-f.c0)=a-f.c0:=wr64 hx.1 (by have:=hx.2;omega);have hw2:IntKind.wrap .i64 (b-f.c1)=b-f.c1:=wr64 hy.1 (by have:=hy.2;omega);have hlv:=levyL_len s.led c f.c3 (othersL s w);have hla:=assessL_len s.roll c f.c4 (othersL s w);have cJ:=ref8Join_spec (chgB s w c gain f (a-f.c0) (b-f.c1)) (by simp [chgB,chgA,moveL];omega);obtain ⟨R,hR⟩:=nmE (chargeR s w c gain f a b);rw [<- hR];simp only [chargeR] at hR;obtain ⟨G,hG⟩:=nmE (chgB s w c gain f (a-f.c0) (b-f.c1));rw [<- hG] at cJ hR;simp only [chgB,chgA] at hG;obtain ⟨x,hxd⟩:=nmE (a-f.c0);obtain ⟨y,hyd⟩:=nmE (b-f.c1);rw [<- hxd,<- hyd] at eX c8 hG hR;have hw1:=hw1.trans hxd.symm;have hw2:=hw2.trans hyd.symm;rw [eX] at c8;have hadd:inR (x+y)=true->addN [x,y]=x+y:=fun h=>by rw [addN_of (by rw [eX];exact h),eX]
 have hmv:∀ p q n,(moveL p q n).length=2:=fun _ _ _=>rfl
 obtain ⟨e1,he1⟩:=nmE (levyE s.led c f.c3 (othersL s w));obtain ⟨e2,he2⟩:=nmE (assessE s.roll c f.c4 (othersL s w));obtain ⟨V,hV⟩:=nmE (levyL s.led c f.c3 (othersL s w));obtain ⟨U,hU⟩:=nmE (assessL s.roll c f.c4 (othersL s w));rw [<- hV] at c6 hG hlv;rw [<- hU] at c7 hG hla;rw [<- he1] at c6;rw [<- he2] at c7;rw [<- he1,<- he2] at hR;have m1:=cM ⟨1,0,c⟩ ⟨2,w,c⟩ (soldN s w c);have m2:=cM ⟨5,0,c⟩ ⟨2,w,c⟩ gain;have m3:=cM ⟨6,0,c⟩ ⟨2,w,c⟩ f.loss;have m4:=cM ⟨2,w,c⟩ ⟨6,0,c⟩ f.c0;have m5:=cM ⟨3,w,c⟩ ⟨6,0,c⟩ f.c1;have m6:=cM ⟨4,0,c⟩ ⟨6,0,c⟩ f.c2;have m7:=cM ⟨2,w,c⟩ ⟨1,0,c⟩ x;have m8:=cM ⟨3,w,c⟩ ⟨1,0,c⟩ y;obtain ⟨A1,hA1⟩:∃ A,A=moveL ⟨1,0,c⟩ ⟨2,w,c⟩ (soldN s w c):=⟨_,rfl⟩
 obtain ⟨A2,hA2⟩:∃ A,A=moveL ⟨5,0,c⟩ ⟨2,w,c⟩ gain:=⟨_,rfl⟩
 obtain ⟨A3,hA3⟩:∃ A,A=moveL ⟨6,0,c⟩ ⟨2,w,c⟩ f.loss:=⟨_,rfl⟩
 obtain ⟨A4,hA4⟩:∃ A,A=moveL ⟨2,w,c⟩ ⟨6,0,c⟩ f.c0:=⟨_,rfl⟩
 obtain ⟨A5,hA5⟩:∃ A,A=moveL ⟨3,w,c⟩ ⟨6,0,c⟩ f.c1:=⟨_,rfl⟩
 obtain ⟨A6,hA6⟩:∃ A,A=moveL ⟨4,0,c⟩ ⟨6,0,c⟩ f.c2:=⟨_,rfl⟩
 obtain ⟨A7,hA7⟩:∃ A,A=moveL ⟨2,w,c⟩ ⟨1,0,c⟩ x:=⟨_,rfl⟩
 obtain ⟨A8,hA8⟩:∃ A,A=moveL ⟨3,w,c⟩ ⟨1,0,c⟩ y:=⟨_,rfl⟩
 have z1:A1.length=2:=by rw [hA1];rfl
 have z2:A2.length=2:=by rw [hA2];rfl
 have z3:A3.length=2:=by rw [hA3];rfl
 have z4:A4.length=2:=by rw [hA4];rfl
 have z5:A5.length=2:=by rw [hA5];rfl
 have z6:A6.length=2:=by rw [hA6];rfl
 have z7:A7.length=2:=by rw [hA7];rfl
 have z8:A8.length=2:=by rw [hA8];rfl
 rw [<- hA1,<- hA2,<- hA3,<- hA4,<- hA5,<- hA6,<- hA7,<- hA8] at hG;rw [<- hA1] at m1;rw [<- hA2] at m2;rw [<- hA3] at m3;rw [<- hA4] at m4;rw [<- hA5] at m5;rw [<- hA6] at m6;rw [<- hA7] at m7;rw [<- hA8] at m8;have hmap:G.map LegV.cells=A1.map LegV.cells++A2.map LegV.cells++A3.map LegV.cells++A4.map LegV.cells++A5.map LegV.cells++A6.map LegV.cells++V.map LegV.cells++U.map LegV.cells++A7.map LegV.cells++A8.map LegV.cells:=by rw [hG];simp only [List.map_append]
 rw [hmap] at cJ;simp only [AcctV.cells] at m1 m2 m3 m4 m5 m6 m7 m8;simp only [LedV.cells] at c6;simp only [RollV.cells] at c7;simp only [StateV.cells] at c5 cSold |-;simp only [FallV.cells];simp only [ints,List.map_cons,List.map_nil] at c8;rw [hcaps];have hcl:(ints (a :: b :: rest)).length=rest.length+2:=by rw [ints_len];rfl
 have hca:=ints_at (a :: b :: rest) (i:=0) (by simp);have hcb:=ints_at (a :: b :: rest) (i:=1) (by simp);simp only [List.getElem_cons_zero,List.getElem_cons_succ] at hca hcb;have hp0:(0:Int) < ((rest.length+2:Nat):Int):=by omega
 have hp1:(1:Int) < ((rest.length+2:Nat):Int):=by omega
 obtain ⟨cp,hcp⟩:=nmE (ints (a :: b :: rest));rw [<- hcp] at hcl hca hcb |-;clear cM hA1 hA2 hA3 hA4 hA5 hA6 hA7 hA8 hV hU he1 he2 hxd hyd hcp hcaps hG hmap hol hmv;refine sgo 171 6 [.tmp 12,.tmp 13,.tmp 14] mixed Tryz.func250 ?_;simp only [go_sem,seval];(with_reducible and_intros)<;>first|exact .dq|omega|skip
 refine CallN.pure cSold ?_;simp only [go_sem,seval];(with_reducible and_intros)<;>first|exact .dq|omega|skip
 refine CallN.pure (cA 2 w) ?_;simp only [go_sem,seval];(with_reducible and_intros)<;>first|exact .dq|omega|skip
 refine CallN.pure (cA 1 0) ?_;simp only [go_sem,seval];(with_reducible and_intros)<;>first|exact .dq|omega|skip
 refine CallN.pure (cA 6 0) ?_;simp only [go_sem,seval];(with_reducible and_intros)<;>first|exact .dq|omega|skip
 refine CallN.pure (cA 3 w) ?_;simp only [go_sem,seval];(with_reducible and_intros)<;>first|exact .dq|omega|skip
 refine CallN.pure m1 ?_;simp only [go_sem,seval,lml,z1];(with_reducible and_intros)<;>first|exact .dq|omega|skip
 refine CallN.pure (cA 5 0) ?_;simp only [go_sem,seval];(with_reducible and_intros)<;>first|exact .dq|omega|skip
 refine CallN.pure m2 ?_;simp only [go_sem,seval,lml,List.length_append,z1,z2];(with_reducible and_intros)<;>first|exact .dq|omega|skip
 refine CallN.pure m3 ?_;simp only [go_sem,seval,lml,List.length_append,z1,z2,z3];(with_reducible and_intros)<;>first|exact .dq|omega|skip
 refine CallN.pure m4 ?_;simp only [go_sem,seval,lml,List.length_append,z1,z2,z3,z4];(with_reducible and_intros)<;>first|exact .dq|omega|skip
 refine CallN.pure m5 ?_;simp only [go_sem,seval,lml,List.length_append,z1,z2,z3,z4,z5];(with_reducible and_intros)<;>first|exact .dq|omega|skip
 refine CallN.pure (cA 4 0) ?_;simp only [go_sem,seval];(with_reducible and_intros)<;>first|exact .dq|omega|skip
 refine CallN.pure m6 ?_;simp only [go_sem,seval,lml,List.length_append,z1,z2,z3,z4,z5,z6];(with_reducible and_intros)<;>first|exact .dq|omega|skip
 refine CallN.pure c5 ?_;simp only [go_sem,seval];(with_reducible and_intros)<;>first|exact .dq|omega|skip
 refine CallN.pure c6 ?_
 by_cases k1:e1=0
 case neg =>
  have d:(e1==0)=false:=by simpa using k1
  rw [if_neg k1] at hR;rw [hR];simp only [go_sem,seval,bne,d]<;>simp
 rw [if_pos k1] at hR;rw [k1];simp only [go_sem,seval];(with_reducible and_intros)<;>first|exact .dq|omega|skip
 refine CallN.pure c5 ?_;simp only [go_sem,seval];(with_reducible and_intros)<;>first|exact .dq|omega|skip
 refine CallN.pure c7 ?_
 by_cases k2:e2=0
 case neg =>
  have d:(e2==0)=false:=by simpa using k2
  rw [if_neg k2] at hR;rw [hR];simp only [go_sem,seval,bne,d]<;>simp
 rw [if_pos k2] at hR;rw [k2];simp only [go_sem,seval,lml,List.length_append,z1,z2,z3,z4,z5,z6,hcl,hca,hcb,hw1,hw2];(with_reducible and_intros)<;>first|exact .dq|omega|skip
 refine CallN.pure m7 ?_;simp only [go_sem,seval,lml,List.length_append,z1,z2,z3,z4,z5,z6,z7];(with_reducible and_intros)<;>first|exact .dq|omega|skip
 refine CallN.pure m8 ?_;simp only [go_sem,seval,lml,List.length_append,z1,z2,z3,z4,z5,z6,z7,z8];(with_reducible and_intros)<;>first|exact .dq|omega|skip
 refine CallN.gen [] [] true (by simp) ?_;simp only [go_sem,seval];refine CallG.intro c8 ?_;cases k3:inR (x+y)
 ·rw [k3,if_neg (by simp)] at hR;rw [hR];simp only [go_sem,seval,k3]<;>simp
 rw [k3,if_pos rfl] at hR;rw [hadd k3,hR];simp only [go_sem,seval,k3];(with_reducible and_intros)<;>first|exact .dq|omega|skip
 refine CallN.gen [2464] [] false (by simp) ?_;simp only [go_sem,seval];refine CallG.intro cJ ?_;simp only [go_sem,seval]
 all_goals (with_reducible and_intros)<;>first|exact .dq|omega|skip
end Go.Proofs.YtgnhdbdipfncgaaGreat
