/- The reference's postings: accounts, legs, and what follows. No theorem of a claim. -/
import Derived.Test.YtgnhdbdipfncgaaGreatKD
import Derived.Test.YtgnhdbdipfncgaaGreatAbcAuto
import Derived.Test.YtgnhdbdipfncgaaGreatKE
set_option linter.unusedSimpArgs false
set_option linter.unusedVariables false
set_option maxHeartbeats 4000000
set_option maxRecDepth 16000
namespace Go.Proofs.YtgnhdbdipfncgaaGreat
open Go.Abs
structure LegV where
 kind:Int
 who:Int
 cur:Int
 amt:Int
deriving DecidableEq
@[reducible] def LegV.cells (x:LegV):List D:=[.int .i64 x.kind,.int .i64 x.who,.int .i64 x.cur,.int .i64 x.amt]
def LegV.acct (x:LegV):AcctV:=⟨x.kind,x.who,x.cur⟩
def LegV.rng (x:LegV):Prop:=I64 x.kind/\I64 x.who/\I64 x.cur/\I64 x.amt
def acc (k w c:Nat):List AcctV:=if AcctV.right ⟨(k:Int)+1,w,c⟩ then [⟨(k:Int)+1,w,c⟩] else []
def accC (k w:Nat) (i:Nat):List AcctV:=(List.range i).flatMap (acc k w)
def accW (k:Nat) (i:Nat):List AcctV:=(List.range i).flatMap fun w=>accC k w 3
def accK (i:Nat):List AcctV:=(List.range i).flatMap fun k=>accW k 17
def allA:List AcctV:=accK 6
theorem accC_len (k w i:Nat):(accC k w i).length<=i:=by
 have:=fr_len (f:=acc k w) (m:=1) (fun c=>by simp only [acc];split<;>simp) i;simpa [accC] using this
theorem accW_len (k i:Nat):(accW k i).length<=3*i:=fr_len (fun w=>accC_len k w 3) i
theorem accK_len (i:Nat):(accK i).length<=51*i:=fr_len (fun k=>accW_len k 17) i
theorem allA_len:allA.length<=306:=accK_len 6
theorem ref8All_spec:Abs.Spec Tryz.prog 288 [] [.sl 1 [[.int .i64 1],[.int .i64 2],[.int .i64 3],[.int .i64 4],[.int .i64 5],[.int .i64 6]]] [.own 3 (allA.map AcctV.cells)] (.ref 0):=by
 obtain ⟨ks,hks⟩:=nmE ([1,2,3,4,5,(6:Int)]);have hl:ks.length=6:=by rw [hks];rfl
 have he:([[.int .i64 1],[.int .i64 2],[.int .i64 3],[.int .i64 4],[.int .i64 5],[.int .i64 6]]:List (List D))=ints ks:=by rw [hks];rfl
 have hin:∀ i:Nat,i < 6->inK ks ((i:Int)+1)=true:=fun i hi=>by
  rw [hks];simp only [inK,List.any_cons,List.any_nil,Bool.or_eq_true,beq_iff_eq];omega
 rw [he];clear he hks;refine sgo 51 1 [.tmp 2] mixed Tryz.func288 ?_;simp only [go_sem,seval];refine LoopK.walk (S:=Unit) 6 [0] [] (fun i _=>[(4,.int .i64 ((i:Int)+1)),(3,.ref 800)]) (fun i _=>[(800,.own 3 ((accK i).map AcctV.cells))]) (fun _ _=>True) () trivial ?_ ?_ ?_
 ·simp only [go_sem,seval]<;>simp [accK]
 ·intro k _ hk _ _ _;have hd:decide ((k:Int)+1<=6)=true:=decide_eq_true (by omega);have hwk:IntKind.wrap .i64 ((k:Int)+1+1)=((k+1:Nat):Int)+1:=by rw [wr64 (by omega) (by omega)];omega
  obtain ⟨K,hK⟩:=nmE ((k:Int)+1);have hnext:accK (k+1)=accK k++accW k 17:=fr_step _ k;have hlen:=accK_len k;rw [<- hK] at hd hwk |-;simp only [go_sem,seval,hd,ints_len,hl];refine LoopK.walk (S:=Unit) 6 [0,3,4] [800] (fun j _=>[(6,.int .i64 j),(5,.bool (inK (ks.take j) K))]) (fun _ _=>[]) (fun _ _=>True) () trivial ?_ ?_ ?_
  ·simp only [go_sem,seval]<;>simp [inK]
  ·intro j _ hj hdj hwj _;have hj':j < ks.length:=by omega
   have hst:=inK_step ks K hj';have hdj:decide ((j:Int) < 6)=true:=hdj;cases hb:inK (ks.take j) K
   ·rw [hb,Bool.false_or] at hst;simp only [go_sem,seval,ints_len,hl,hdj,ints_at ks hj',hwj];(with_reducible and_intros)<;>first|exact .dq|omega|skip
    refine RoundK.step () hj trivial ?_;simp only [go_sem,seval,hst]
   ·rw [hb,Bool.true_or] at hst;simp only [go_sem,seval,ints_len,hl,hdj,ints_at ks hj',hwj];(with_reducible and_intros)<;>first|exact .dq|omega|skip
    refine RoundK.step () hj trivial ?_;simp only [go_sem,seval,hst]
  intro _ hdj _;have hdj:decide ((6:Int) < 6)=false:=hdj;have hy:inK (ks.take 6) K=true:=by rw [<- hl,List.take_length,hK];exact hin k hk
  rw [hy];simp only [go_sem,seval,ints_len,hl,hdj];refine LoopK.walk (S:=Unit) 17 [0,4,5] [] (fun j _=>[(7,.int .i64 j),(3,.ref 800)]) (fun j _=>[(800,.own 3 ((accK k++accW k j).map AcctV.cells))]) (fun _ _=>True) () trivial ?_ ?_ ?_
  ·simp only [go_sem,seval]<;>simp [accW]
  ·intro w _ hw hdw hww _;have hdw:decide ((w:Int)<=16)=true:=decide_eq_true (by omega);have hnw:accW k (w+1)=accW k w++accC k w 3:=fr_step _ w;have hlw:=accW_len k w;simp only [go_sem,seval,hdw];refine LoopK.walk (S:=Unit) 3 [0,4,5,7] [] (fun j _=>[(8,.int .i64 j),(3,.ref 800)]) (fun j _=>[(800,.own 3 ((accK k++accW k w++accC k w j).map AcctV.cells))]) (fun _ _=>True) () trivial ?_ ?_ ?_
   ·simp only [go_sem,seval]<;>simp [accC]
   ·intro c _ hc hdc hwc _;have hdc:decide ((c:Int) < 3)=true:=hdc;have hnc:accC k w (c+1)=accC k w c++acc k w c:=fr_step _ c;have hlc:=accC_len k w c;have hR:=ref8Right_spec ⟨K,w,c⟩;simp only [AcctV.cells] at hR;simp only [acc,<- hK] at hnc;simp only [go_sem,seval,hdc];(with_reducible and_intros)<;>first|exact .dq|omega|skip
    refine CallN.pure hR ?_;cases hb:AcctV.right ⟨K,w,c⟩
    ·rw [hb] at hnc;simp only [go_sem,seval,hwc];refine RoundK.step () hc trivial ?_;simp only [go_sem,seval,hnc]<;>simp
    ·rw [hb] at hnc;simp only [go_sem,seval,hwc,lml,List.length_append];(with_reducible and_intros)<;>first|exact .dq|omega|skip
     refine RoundK.step () hc trivial ?_;simp only [go_sem,seval,hnc]<;>simp [AcctV.cells]
   ·intro _ hdc _;have hdc:decide ((3:Int) < 3)=false:=hdc;simp only [go_sem,seval,hdc,hww];refine RoundK.step () hw trivial ?_;simp only [go_sem,seval,hnw]<;>simp
  ·intro _ _ _;simp only [go_sem,seval,hwk];refine RoundK.step () hk trivial ?_;simp only [go_sem,seval,hnext]<;>simp
 ·intro _ _ _;simp only [go_sem,seval,allA]
def mayOk (x:LegV):Bool:=x.acct.right&&inR x.amt
def mayB (l:List LegV):Bool:=l.all mayOk
theorem ref8May_spec (l:List LegV) (hl:l.length < 2 ^ 40):Abs.Spec Tryz.prog 320 [] [.sl 4 (l.map LegV.cells)] [] (.bool (mayB l)):=by
 refine sgo 26 1 [.tmp 2] mixed Tryz.func320 ?_;simp only [go_sem,seval,lml];refine LoopK.walk (S:=Unit) l.length [0] [] (fun i _=>[(3,.int .i64 i)]) (fun _ _=>[]) (fun i _=>mayB (l.drop i)=mayB l) () rfl ?_ ?_ ?_
 ·simp only [go_sem,seval]<;>simp
 ·intro i _ hi hdi hwi hI;have hm:=map_at (c:=LegV.cells) l hi;obtain ⟨x,hx⟩:=nmE (l[i]);have hR:=ref8Right_spec x.acct;have hN:=refRight_spec x.amt;have hli:(i:Int) < (l.length:Int):=by omega
  rw [drop_at hi,<- hx] at hI;rw [<- hx] at hm;have hk:mayOk x=(AcctV.right ⟨x.kind,x.who,x.cur⟩&&inR x.amt):=rfl;simp only [mayB,List.all_cons,hk] at hI;simp only [LegV.cells] at hm;simp only [AcctV.cells,LegV.acct] at hR;simp only [go_sem,seval,lml,hdi,hm];(with_reducible and_intros)<;>first|exact .dq|omega|skip
  refine CallN.pure hR ?_;cases b1:AcctV.right ⟨x.kind,x.who,x.cur⟩
  ·rw [b1] at hI;simp only [go_sem,seval,mayB,<- hI,Bool.false_and]
  simp only [go_sem,seval,lml,hm];(with_reducible and_intros)<;>first|exact .dq|omega|skip
  refine CallN.pure hN ?_;cases b2:inR x.amt
  ·rw [b1,b2] at hI;simp only [go_sem,seval,mayB,<- hI,Bool.false_and,Bool.and_false]
  rw [b1,b2,Bool.and_self,Bool.true_and] at hI;simp only [go_sem,seval,hwi];refine RoundK.step () hi hI ?_;simp only [go_sem,seval]
 ·intro _ hdx hI;rw [List.drop_length] at hI;simp only [go_sem,seval,lml,hdx,<- hI];rfl
def moveL (a b:AcctV) (n:Int):List LegV:=[⟨a.kind,a.who,a.cur,-(if inR n then n else 0)⟩,⟨b.kind,b.who,b.cur,if inR n then n else 0⟩]
theorem ref8Move_own (a b:AcctV) (n:Int):Abs.Spec Tryz.prog 103 [] [.agg a.cells,.agg b.cells,.int .i64 n] [.own 4 ((moveL a b n).map LegV.cells)] (.ref 0):=by
 have hN:=refRight_spec n;have hw:inR n=true->IntKind.wrap .i64 (0-n) = -n:=fun h=>by have:=inR_iff.1 h;rw [wr64 (by omega) (by omega)];omega
 simp only [AcctV.cells];refine sgo 18 3 [.tmp 6] mixed Tryz.func103 ?_;simp only [go_sem,seval];refine CallN.pure hN ?_;cases b1:inR n
 ·simp only [go_sem,seval,moveL,b1]<;>simp;rfl
 ·simp only [go_sem,seval,moveL,b1,hw b1]<;>simp
theorem ref8Move_spec (a b:AcctV) (n:Int):Abs.Spec Tryz.prog 103 [] [.agg a.cells,.agg b.cells,.int .i64 n] [] (.sl 4 ((moveL a b n).map LegV.cells)):=by
 refine Spec.frozen (ref8Move_own a b n) [0] rfl ?_;intro r;rcases r with _ | r<;>rfl
def pick {A:Type} (p:A->Bool) (f:A->Int) (xs:List A):List Int:=xs.flatMap fun x=>if p x then [f x] else []
theorem pick_step {A:Type} (p:A->Bool) (f:A->Int) {xs:List A} {i:Nat} (h:i < xs.length):pick p f (xs.take (i+1))=pick p f (xs.take i)++(if p xs[i] then [f xs[i]] else []):=fm_step _ h
theorem pick_len {A:Type} (p:A->Bool) (f:A->Int) (xs:List A):(pick p f xs).length<=xs.length:=by
 have:=fm_len (f:=fun x=>if p x then [f x] else []) (m:=1) (fun x=>by split<;>simp) xs;simpa [pick] using this
theorem pick_all {A:Type} {p:A->Bool} {f:A->Int} {xs:List A} {R:Int->Prop} (h:∀ x∈xs,R (f x)):∀ n∈pick p f xs,R n:=by
 intro n hn;obtain ⟨x,hx,hn⟩:=List.mem_flatMap.1 hn;split at hn
 ·obtain rfl:n=f x:=by simpa using hn
  exact h x hx
 ·cases hn
theorem pickI_step {A:Type} (p:A->Bool) (f:A->Int) {xs:List A} {i:Nat} (h:i < xs.length):ints (pick p f (xs.take (i+1)))=ints (pick p f (xs.take i))++(if p xs[i] then [[.int .i64 (f xs[i])]] else []):=by
 rw [pick_step p f h];unfold ints;rw [List.map_append];split<;>rfl
theorem add0 (l:List Int):(inR (sumL l)&&addN l==0)=(sumL l==0):=by
 unfold addN;cases h:inR (sumL l)
 ·have:sumL l≠0:=fun e=>by rw [e] at h;cases h
  simp [this]
 ·simp
theorem mayB_mem {l:List LegV} (h:mayB l=true):∀ x∈l,x.acct.right=true/\inR x.amt=true:=fun x hx=>by
 have:=List.all_eq_true.1 h x hx;simpa only [mayOk,bae] using this
def curS (c:Int) (l:List LegV):List Int:=pick (fun x=>x.cur==c) LegV.amt l
def flat3 (l:List LegV):Bool:=(List.range 3).all fun c=>sumL (curS c l)==0
def chkE (l:List LegV):Int:=if l.length=0 then 2 else if 64 < l.length then 5 else if mayB l then (if flat3 l then 0 else 12) else 3
theorem ref8Check_spec (l:List LegV) (hl:l.length < 2 ^ 30):Abs.Spec Tryz.prog 287 [] [.sl 4 (l.map LegV.cells)] [] (.int .i64 (chkE l)):=by
 have hM:=ref8May_spec l (by omega);refine sgo 54 1 [.tmp 2] mixed Tryz.func287 ?_;simp only [go_sem,seval,lml]
 by_cases h0:l.length=0
 ·have d:((l.length:Int)==0)=true:=by simp [h0]
  have e:chkE l=2:=by simp [chkE,h0]
  simp only [go_sem,seval,d,e]
 have d0:((l.length:Int)==0)=false:=by simpa using h0
 by_cases h1:64 < l.length
 ·have d:decide (64 < (l.length:Int))=true:=decide_eq_true (by omega);have e:chkE l=5:=by simp only [chkE];rw [if_neg h0,if_pos h1]
  simp only [go_sem,seval,d0,d,e,lml]
 have d1:decide (64 < (l.length:Int))=false:=decide_eq_false (by omega);simp only [go_sem,seval,d0,d1,lml];refine CallN.pure hM ?_;cases b1:mayB l
 ·have e:chkE l=3:=by simp only [chkE];rw [if_neg h0,if_neg h1,b1];rfl
  simp only [go_sem,seval,e]
 have e:chkE l=if flat3 l then 0 else 12:=by simp only [chkE];rw [if_neg h0,if_neg h1,b1];rfl
 have hmm:=mayB_mem b1;rw [e];clear e d0 d1 hM;simp only [go_sem,seval];refine LoopK.walk (S:=Unit) 3 [0] [] (fun i _=>[(3,.int .i64 i)]) (fun _ _=>[]) (fun i _=>∀ c < i,(sumL (curS (c:Nat) l)==0)=true) () (by simp) ?_ ?_ ?_
 ·simp only [go_sem,seval]<;>simp
 ·intro c _ hc hdc hwc hI;have hdc:decide ((c:Int) < 3)=true:=hdc;have hA:=refAdd_spec (curS c l) (pick_all fun x hx=>i64_of (hmm x hx).2) (by have:=pick_len (fun x:LegV=>x.cur==(c:Int)) LegV.amt l;unfold curS;omega);have h0:=add0 (curS c l);simp only [go_sem,seval,hdc,lml];refine LoopK.walk (S:=Unit) l.length [0,3] [] (fun i _=>[(5,.int .i64 i),(4,.ref 688)]) (fun i _=>[(688,.own 1 (ints (curS c (l.take i))))]) (fun _ _=>True) () trivial ?_ ?_ ?_
  ·simp only [go_sem,seval]<;>simp [curS,pick,ints]
  ·intro i _ hi hdi hwi _;have hm:=map_at (c:=LegV.cells) l hi;have hs:ints (curS c (l.take (i+1)))=_:=pickI_step (fun x:LegV=>x.cur==(c:Int)) LegV.amt hi;have hlen:=pick_len (fun x:LegV=>x.cur==(c:Int)) LegV.amt (l.take i);have hlt:(l.take i).length=i:=by simp;omega
   have hli:(i:Int) < (l.length:Int):=by omega
   have hlen:(curS c (l.take i)).length<=i:=by unfold curS;omega
   obtain ⟨x,hx⟩:=nmE (l[i]);rw [<- hx] at hs hm;simp only [LegV.cells] at hm;simp only [go_sem,seval,lml,hdi,hm];(with_reducible and_intros)<;>first|exact .dq|omega|skip
   cases hb:x.cur==(c:Int)
   ·simp only [hb,bfe,if_false,if_true,List.append_nil] at hs;simp only [go_sem,seval,hwi];refine RoundK.step () hi trivial ?_;simp only [go_sem,seval,hs]<;>simp [curS]
   ·simp only [hb,bfe,if_false,if_true,List.append_nil] at hs;simp only [go_sem,seval,hwi,ints_len,lml,hm];(with_reducible and_intros)<;>first|exact .dq|omega|skip
    refine RoundK.step () hi trivial ?_;simp only [go_sem,seval,hs]<;>simp [curS]
  ·intro _ hdx _;simp only [go_sem,seval,hdx,lml,List.take_length];refine CallN.gen [] [] true (by simp) ?_;simp only [go_sem,seval];refine CallG.intro hA ?_;cases b1:inR (sumL (curS c l))
   ·have:flat3 l=false:=by
     rw [flat3,List.all_eq_false];exact ⟨c,List.mem_range.2 hc,by rw [b1] at h0;rw [<- h0];simp⟩
    simp only [go_sem,seval,b1,this]
   cases b2:addN (curS c l)==0
   ·have:flat3 l=false:=by
     rw [flat3,List.all_eq_false];exact ⟨c,List.mem_range.2 hc,by rw [b1,b2] at h0;rw [<- h0];simp⟩
    simp only [go_sem,seval,b1,bne,b2,this]
   rw [b1,b2] at h0;simp only [go_sem,seval,b1,bne,b2,hwc];refine RoundK.step () hc ?_ ?_
   ·intro k hk;rcases Nat.lt_or_ge k c with h | h
    ·exact hI k h
    ·obtain rfl:k=c:=by omega
     exact h0.symm
   ·simp only [go_sem,seval]
 ·intro _ hdc hI;have hdc:decide ((3:Int) < 3)=false:=hdc;have:flat3 l=true:=List.all_eq_true.2 fun c hc=>hI c (List.mem_range.1 hc)
  simp only [go_sem,seval,hdc,this]
def legS (a:AcctV) (l:List LegV):List Int:=pick (fun x=>x.acct.same a) LegV.amt l
def legN (a:AcctV) (n:Int):List LegV:=if n==0 then [] else [⟨a.kind,a.who,a.cur,n⟩]
def joinA (l:List LegV) (ys:List AcctV):List LegV:=ys.flatMap fun a=>legN a (sumL (legS a l))
def joinIn (l:List LegV) (ys:List AcctV):Bool:=ys.all fun a=>inR (sumL (legS a l))
def joinE (l:List LegV):Int:=if mayB l then (if joinIn l allA then 0 else 1) else 3
def joinL (l:List LegV):List LegV:=if joinE l=0 then joinA l allA else []
theorem legN_len (a:AcctV) (n:Int):(legN a n).length<=1:=by unfold legN;split<;>simp
theorem joinA_len (l:List LegV) (ys:List AcctV):(joinA l ys).length<=ys.length:=by
 have:=fm_len (f:=fun a=>legN a (sumL (legS a l))) (m:=1) (fun a=>legN_len _ _) ys;simpa [joinA] using this
theorem ref8Join_own (l:List LegV) (hl:l.length < 2 ^ 29):Abs.Spec Tryz.prog 293 [] [.sl 4 (l.map LegV.cells)] [.own 4 ((joinL l).map LegV.cells)] (.tup [.ref 0,.int .i64 (joinE l)]):=by
 have hM:=ref8May_spec l (by omega);have hAll:=ref8All_spec;refine sgo 65 1 [.tmp 2,.tmp 3] mixed Tryz.func293 ?_;simp only [go_sem,seval];refine CallN.pure hM ?_;cases b1:mayB l
 ·have e:joinE l=3:=by simp [joinE,b1]
  have e2:joinL l=[]:=by simp [joinL,e]
  simp only [go_sem,seval,e,e2]<;>simp
 have e:joinE l=if joinIn l allA then 0 else 1:=by simp [joinE,b1]
 have e2:joinL l=if joinIn l allA then joinA l allA else []:=by simp only [joinL,e];cases joinIn l allA<;>simp
 have hmm:=mayB_mem b1;have hal:=allA_len;rw [e,e2];clear e e2 hM;obtain ⟨ys,has⟩:=nmE (allA);rw [<- has] at hAll hal |-;clear has;simp only [go_sem,seval];refine CallN.gen [240] [] false (by simp) ?_;simp only [go_sem,seval];refine CallG.intro hAll ?_;simp only [go_sem,seval,lml];refine LoopK.walk (S:=Unit) ys.length [0,5] [256] (fun i _=>[(6,.int .i64 i),(4,.ref 1024)]) (fun i _=>[(1024,.own 4 ((joinA l (ys.take i)).map LegV.cells))]) (fun i _=>joinIn l (ys.drop i)=joinIn l ys) () rfl ?_ ?_ ?_
 ·simp only [go_sem,seval]<;>simp [joinA]
 ·intro k _ hk hdk hwk hI;have hma:=map_at (c:=AcctV.cells) ys hk;have hlk:(k:Int) < (ys.length:Int):=by omega
  have hnx:joinA l (ys.take (k+1))=joinA l (ys.take k)++_:=fm_step _ hk;have hjl:=joinA_len l (ys.take k);have hjt:(ys.take k).length=k:=by simp;omega
  obtain ⟨a,ha⟩:=nmE (ys[k]);rw [drop_at hk,<- ha] at hI;simp only [joinIn,List.all_cons] at hI;rw [<- ha] at hma hnx;have hA:=refAdd_spec (legS a l) (pick_all fun x hx=>i64_of (hmm x hx).2) (by have:=pick_len (fun x:LegV=>x.acct.same a) LegV.amt l;unfold legS;omega);simp only [AcctV.cells] at hma;simp only [go_sem,seval,hdk,lml];refine LoopK.walk (S:=Unit) l.length [0,4,5,6] [256,1024] (fun i _=>[(8,.int .i64 i),(7,.ref 736)]) (fun i _=>[(736,.own 1 (ints (legS a (l.take i))))]) (fun _ _=>True) () trivial ?_ ?_ ?_
  ·simp only [go_sem,seval]<;>simp [legS,pick,ints]
  ·intro i _ hi hdi hwi _;have hm:=map_at (c:=LegV.cells) l hi;have hs:ints (legS a (l.take (i+1)))=ints (legS a (l.take i))++_:=pickI_step (fun x:LegV=>x.acct.same a) LegV.amt hi;have hlen:=pick_len (fun x:LegV=>x.acct.same a) LegV.amt (l.take i);have hlt:(l.take i).length=i:=by simp;omega
   have hli:(i:Int) < (l.length:Int):=by omega
   have hlen:(legS a (l.take i)).length<=i:=by unfold legS;omega
   obtain ⟨x,hx⟩:=nmE (l[i]);have hS:Abs.Spec Tryz.prog 66 [] [.agg [.int .i64 x.kind,.int .i64 x.who,.int .i64 x.cur],.agg [.int .i64 a.kind,.int .i64 a.who,.int .i64 a.cur]] [] (.bool (x.acct.same a)):=ref8Same_spec x.acct a;rw [<- hx] at hs hm;simp only [LegV.cells] at hm;simp only [go_sem,seval,lml,hdi,hm,hma];(with_reducible and_intros)<;>first|exact .dq|omega|skip
   refine CallN.pure hS ?_;cases hb:x.acct.same a
   ·simp only [hb,bfe,if_false,if_true,List.append_nil] at hs;simp only [go_sem,seval,hwi];refine RoundK.step () hi trivial ?_;simp only [go_sem,seval,hs]
   ·simp only [hb,bfe,if_false,if_true,List.append_nil] at hs;simp only [go_sem,seval,hwi,ints_len,lml,hm];(with_reducible and_intros)<;>first|exact .dq|omega|skip
    refine RoundK.step () hi trivial ?_;simp only [go_sem,seval,hs]
  ·intro _ hdx _;simp only [go_sem,seval,hdx,lml,List.take_length];refine CallN.gen [] [] true (by simp) ?_;simp only [go_sem,seval];refine CallG.intro hA ?_;cases b1:inR (sumL (legS a l))
   ·rw [b1,Bool.false_and] at hI;have:joinIn l ys=false:=hI.symm;simp only [go_sem,seval,b1,this]<;>simp
   rw [b1,Bool.true_and] at hI;have hn:addN (legS a l)=sumL (legS a l):=by simp [addN,b1]
   rw [hn];cases b2:sumL (legS a l)==0
   ·simp only [legN,b2] at hnx;simp only [go_sem,seval,b1,bne,b2,hwk,hma,lml];(with_reducible and_intros)<;>first|exact .dq|omega|skip
    refine RoundK.step () hk hI ?_;simp only [go_sem,seval,hnx]<;>simp
   ·simp only [legN,b2] at hnx;simp only [go_sem,seval,b1,bne,b2,hwk];refine RoundK.step () hk hI ?_;simp only [go_sem,seval,hnx]<;>simp
 ·intro _ hdx hI;rw [List.drop_length] at hI;have:joinIn l ys=true:=hI.symm;simp only [go_sem,seval,hdx,lml,this,List.take_length]<;>simp
theorem ref8Join_spec (l:List LegV) (hl:l.length < 2 ^ 29):Abs.Spec Tryz.prog 293 [] [.sl 4 (l.map LegV.cells)] [] (.tup [.sl 4 ((joinL l).map LegV.cells),.int .i64 (joinE l)]):=by
 refine Spec.frozen (ref8Join_own l hl) [0] rfl ?_;intro r;rcases r with _ | r<;>rfl
def pstS (l:LedV) (g:List LegV) (a:AcctV):Int:=sumL (ofL a l.bs :: legS a g)
def balN (a:AcctV) (n:Int):List BalV:=if n==0 then [] else [⟨a.kind,a.who,a.cur,n⟩]
def pstA (l:LedV) (g:List LegV) (ys:List AcctV):List BalV:=ys.flatMap fun a=>balN a (pstS l g a)
def pstIn (l:LedV) (g:List LegV) (ys:List AcctV):Bool:=ys.all fun a=>inR (pstS l g a)
def pstFl (l:LedV) (g:List LegV) (ys:List AcctV):Bool:=ys.any fun a=>decide (pstS l g a < a.floor)
def postE (l:LedV) (id:Int) (g:List LegV):Int:=
 if l.okB then (if within id 1 1099511627776 then (if id<=l.last then 18 else if chkE g=0 then (if pstIn l g allA then (if pstFl l g allA then 13 else 0) else 1) else chkE g) else 3) else 14
def postL (l:LedV) (id:Int) (g:List LegV):LedV:=if postE l id g=0 then ⟨id,pstA l g allA⟩ else ⟨0,[]⟩
theorem balN_len (a:AcctV) (n:Int):(balN a n).length<=1:=by unfold balN;split<;>simp
theorem pstA_len (l:LedV) (g:List LegV) (ys:List AcctV):(pstA l g ys).length<=ys.length:=by
 have:=fm_len (f:=fun a=>balN a (pstS l g a)) (m:=1) (fun a=>balN_len _ _) ys;simpa [pstA] using this
theorem chkE_may {g:List LegV} (h:chkE g=0):mayB g=true/\flat3 g=true/\g.length<=64:=by
 unfold chkE at h;split at h
 ·cases h
 split at h
 ·cases h
 split at h
 ·split at h
  ·rename_i h1 h2 h3 h4;exact ⟨h3,h4,by omega⟩
  ·cases h
 ·cases h
theorem ref8Post_own (l:LedV) (id:Int) (g:List LegV) (hl:l.bs.length < 2 ^ 30) (hr:∀ b∈l.bs,b.rng) (hg:g.length < 2 ^ 29):Abs.Spec Tryz.prog 229 [] [.agg l.cells,.int .i64 id,.sl 4 (g.map LegV.cells)] [.own 4 ((postL l id g).bs.map BalV.cells)] (.tup [.agg [.int .i64 (postL l id g).last,.ref 0],.int .i64 (postE l id g)]):=by
 have hL:=ref8Ledger_spec l hl hr;have hC:=ref8Check_spec g (by omega);have hAll:=ref8All_spec;have hO:=fun a=>ref8Of_spec l a hl
 have hor:=fun a=>ofL_rng (a:=a) hr
 simp only [LedV.cells,AcctV.cells] at hL hO |-;refine sgo 116 3 [.cell 6 36,.tmp 7] mixed Tryz.func229 ?_;simp only [go_sem,seval];refine CallN.pure hL ?_;cases b1:l.okB
 ·have e:postE l id g=14:=by simp [postE,b1]
  simp only [go_sem,seval,postL,e]<;>simp
 cases b2:within id 1 1099511627776
 ·have e:postE l id g=3:=by simp [postE,b1,b2]
  simp only [within,Bool.and_eq_false_iff,decide_eq_false_iff_not] at b2
  by_cases h:id < 1
  ·have d:decide (id < 1)=true:=decide_eq_true h;simp only [go_sem,seval,d,postL,e]<;>simp
  ·have d:decide (id < 1)=false:=decide_eq_false h;have d2:decide (1099511627776 < id)=true:=decide_eq_true (by omega);simp only [go_sem,seval,d,d2,postL,e]<;>simp
 have d1:decide (id < 1)=false:=by simp only [within,bae,decide_eq_true_eq] at b2;exact decide_eq_false (by omega)
 have d2:decide (1099511627776 < id)=false:=by simp only [within,bae,decide_eq_true_eq] at b2;exact decide_eq_false (by omega)
 by_cases h3:id<=l.last
 ·have d3:decide (id<=l.last)=true:=decide_eq_true h3;have e:postE l id g=18:=by simp [postE,b1,b2,h3]
  simp only [go_sem,seval,d1,d2,d3,postL,e]<;>simp
 have d3:decide (id<=l.last)=false:=decide_eq_false h3;simp only [go_sem,seval,d1,d2,d3];refine CallN.pure hC ?_;cases b4:chkE g==0
 ·have h4:chkE g≠0:=by simpa using b4
  have e:postE l id g=chkE g:=by simp [postE,b1,b2,h3,h4]
  have e2:postL l id g=⟨0,[]⟩:=by simp [postL,e,h4]
  simp only [go_sem,seval,bne,b4,e,e2]<;>simp
 have h4:chkE g=0:=by simpa using b4
 have e:postE l id g=if pstIn l g allA then (if pstFl l g allA then 13 else 0) else 1:=by simp [postE,b1,b2,h3,h4]
 have hmm:=mayB_mem (chkE_may h4).1;have hal:=allA_len;simp only [postL];rw [e];clear e hL hC b2 d1 d2 d3;obtain ⟨ys,has⟩:=nmE (allA);rw [<- has] at hAll hal |-;clear has;simp only [go_sem,seval,bne,b4];refine CallN.gen [704] [] false (by simp) ?_;simp only [go_sem,seval];refine CallG.intro hAll ?_;simp only [go_sem,seval,lml];refine LoopK.walk (S:=Unit) ys.length [2,3,6,8,10,12] [64,112,144,720] (fun i _=>[(13,.int .i64 i),(11,.bool (pstFl l g (ys.take i)))]) (fun i _=>[(176,.box [.int .i64 id,.ref 1792]),(1792,.own 4 ((pstA l g (ys.take i)).map BalV.cells))]) (fun i _=>pstIn l g (ys.drop i)=pstIn l g ys) () rfl ?_ ?_ ?_
 ·simp only [go_sem,seval]<;>simp [pstA,pstFl]
 ·intro k _ hk hdk hwk hI;have hma:=map_at (c:=AcctV.cells) ys hk;have hlk:(k:Int) < (ys.length:Int):=by omega
  have hnx:pstA l g (ys.take (k+1))=pstA l g (ys.take k)++_:=fm_step _ hk
  have hnf:pstFl l g (ys.take (k+1))=(pstFl l g (ys.take k)||decide (pstS l g ys[k] < ys[k].floor)):=by
   simp only [pstFl];rw [List.take_succ_eq_append_getElem hk,List.any_append];simp
  have hjl:=pstA_len l g (ys.take k);have hjt:(ys.take k).length=k:=by simp;omega
  obtain ⟨a,ha⟩:=nmE (ys[k]);rw [drop_at hk,<- ha] at hI;simp only [pstIn,List.all_cons] at hI;rw [<- ha] at hma hnx hnf
  have hA:=refAdd_spec (ofL a l.bs :: legS a g) (fun n hn=>by
   rcases List.mem_cons.1 hn with rfl | hn
   ·exact hor a
   ·exact pick_all (fun x hx=>i64_of (hmm x hx).2) n hn) (by have:=pick_len (fun x:LegV=>x.acct.same a) LegV.amt g;simp only [List.length_cons,legS];omega)
  have hF:=ref8Floor_spec a;have hOa:=hO a;simp only [AcctV.cells] at hma hF hOa;clear hO;simp only [go_sem,seval,hdk,lml,hma];(with_reducible and_intros)<;>first|exact .dq|omega|skip
  refine CallN.pure hOa ?_;simp only [go_sem,seval,lml];refine LoopK.walk (S:=Unit) g.length [2,3,6,8,10,11,12,13] [64,112,144,176,720,1792] (fun i _=>[(15,.int .i64 i),(14,.ref 1312)]) (fun i _=>[(1312,.own 1 (ints (ofL a l.bs :: legS a (g.take i))))]) (fun _ _=>True) () trivial ?_ ?_ ?_
  ·simp only [go_sem,seval]<;>simp [legS,pick,ints]
  ·intro i _ hi hdi hwi _;have hm:=map_at (c:=LegV.cells) g hi;have hs:ints (legS a (g.take (i+1)))=ints (legS a (g.take i))++_:=pickI_step (fun x:LegV=>x.acct.same a) LegV.amt hi;have hlen:=pick_len (fun x:LegV=>x.acct.same a) LegV.amt (g.take i);have hlt:(g.take i).length=i:=by simp;omega
   have hli:(i:Int) < (g.length:Int):=by omega
   have hlen:(ofL a l.bs :: legS a (g.take i)).length<=i+1:=by simp only [List.length_cons,legS];omega
   obtain ⟨x,hx⟩:=nmE (g[i]);rw [<- hx] at hs;have hs:ints (ofL a l.bs :: legS a (g.take (i+1)))=ints (ofL a l.bs :: legS a (g.take i))++(if x.acct.same a then [[.int .i64 x.amt]] else []):=congrArg (fun z:List (List D)=>([D.int .i64 (ofL a l.bs)]:List D) :: z) hs;obtain ⟨L,hL⟩:=nmE (ofL a l.bs :: legS a (g.take i));have hS:Abs.Spec Tryz.prog 66 [] [.agg [.int .i64 x.kind,.int .i64 x.who,.int .i64 x.cur],.agg [.int .i64 a.kind,.int .i64 a.who,.int .i64 a.cur]] [] (.bool (x.acct.same a)):=ref8Same_spec x.acct a;rw [<- hL] at hs;rw [<- hx] at hm;rw [<- hL] at hlen |-;simp only [LegV.cells] at hm;simp only [go_sem,seval,lml,hdi,hm,hma];(with_reducible and_intros)<;>first|exact .dq|omega|skip
   refine CallN.pure hS ?_;cases hb:x.acct.same a
   ·simp only [hb,bfe,if_false,if_true,List.append_nil] at hs;simp only [go_sem,seval,hwi];refine RoundK.step () hi trivial ?_;simp only [go_sem,seval,hs]<;>simp
   ·simp only [hb,bfe,if_false,if_true,List.append_nil] at hs;simp only [go_sem,seval,hwi,ints_len,lml,hm];(with_reducible and_intros)<;>first|exact .dq|omega|skip
    refine RoundK.step () hi trivial ?_;simp only [go_sem,seval,hs]<;>simp
  ·intro _ hdx _;simp only [go_sem,seval,hdx,lml,List.take_length];refine CallN.gen [] [] true (by simp) ?_;simp only [go_sem,seval];refine CallG.intro hA ?_;have hS:sumL (ofL a l.bs :: legS a g)=pstS l g a:=rfl;have hn:inR (pstS l g a)=true->addN (ofL a l.bs :: legS a g)=pstS l g a:=fun h=>by simp [addN,hS,h]
   rw [hS];cases b1:inR (pstS l g a)
   ·rw [b1,Bool.false_and] at hI;have:pstIn l g ys=false:=hI.symm;simp only [go_sem,seval,b1,this]<;>simp
   rw [b1,Bool.true_and] at hI;rw [hn b1];cases b3:pstFl l g (ys.take k)
   case true =>
    rw [b3,Bool.true_or] at hnf;cases b2:pstS l g a==0
    ·simp only [balN,b2] at hnx;simp only [go_sem,seval,b1,b3,bne,b2,hwk,hma,lml];(with_reducible and_intros)<;>first|exact .dq|omega|skip
     refine RoundK.step () hk hI ?_;simp only [go_sem,seval,hnx,hnf]<;>simp
    ·simp only [balN,b2] at hnx;simp only [go_sem,seval,b1,b3,bne,b2,hwk];refine RoundK.step () hk hI ?_;simp only [go_sem,seval,hnx,hnf]<;>simp
   rw [b3,Bool.false_or] at hnf;simp only [go_sem,seval,b1,b3,bne,hma,lml];(with_reducible and_intros)<;>first|exact .dq|omega|skip
   refine CallN.pure hF ?_;cases b2:pstS l g a==0
   ·simp only [balN,b2] at hnx;simp only [go_sem,seval,b2,hwk,hma,lml,bne];(with_reducible and_intros)<;>first|exact .dq|omega|skip
    refine RoundK.step () hk hI ?_;simp only [go_sem,seval,hnx,hnf]<;>simp
   ·simp only [balN,b2] at hnx;simp only [go_sem,seval,b2,bne,hwk];refine RoundK.step () hk hI ?_;simp only [go_sem,seval,hnx,hnf]<;>simp
 ·intro _ hdx hI;rw [List.drop_length] at hI;have:pstIn l g ys=true:=hI.symm;cases b5:pstFl l g ys
  ·simp only [go_sem,seval,hdx,lml,this,List.take_length,b5]<;>simp
  ·simp only [go_sem,seval,hdx,lml,this,List.take_length,b5]<;>simp
theorem ref8Post_spec (l:LedV) (id:Int) (g:List LegV) (hl:l.bs.length < 2 ^ 30) (hr:∀ b∈l.bs,b.rng) (hg:g.length < 2 ^ 29):Abs.Spec Tryz.prog 229 [] [.agg l.cells,.int .i64 id,.sl 4 (g.map LegV.cells)] [] (.tup [.agg (postL l id g).cells,.int .i64 (postE l id g)]):=by
 refine Spec.frozen (ref8Post_own l id g hl hr hg) [0] rfl ?_;intro r;rcases r with _ | r<;>rfl
theorem twinRoll_frozen (r:RollV) (h:r.tiny):Abs.Spec Tryz.prog 40 [] [.agg r.cells] [] (.agg r.cells):=by
 refine Spec.frozen (twinRoll_spec r h) [0,1,2] rfl ?_;intro r;rcases r with _ | _ | _ | r<;>rfl
theorem twinRoll_N (r:RollV) (h:r.tiny):Abs.Spec Tryz.prog 40 [] [.agg r.cells] [.undef,.own 12 (r.ns.map InstV.cells)] (.agg [.sl 3 (r.ms.map MemberV.cells),.ref 1,.sl 4 (r.xs.map AssetV.cells)]):=by
 refine Spec.frozen (twinRoll_spec r h) [0,2] rfl ?_;intro r;rcases r with _ | _ | _ | r<;>rfl
theorem twinRoll_M (r:RollV) (h:r.tiny):Abs.Spec Tryz.prog 40 [] [.agg r.cells] [.own 3 (r.ms.map MemberV.cells)] (.agg [.ref 0,.sl 12 (r.ns.map InstV.cells),.sl 4 (r.xs.map AssetV.cells)]):=by
 refine Spec.frozen (twinRoll_spec r h) [1,2] rfl ?_;intro r;rcases r with _ | _ | _ | r<;>rfl
def frm {B:Type} (f:Nat->List B) (i:Nat):List B:=(List.range i).flatMap f
theorem frm_step {B:Type} (f:Nat->List B) (i:Nat):frm f (i+1)=frm f i++f i:=fr_step f i
theorem frm_len {B:Type} {f:Nat->List B} {m:Nat} (h:∀ a,(f a).length<=m) (i:Nat):(frm f i).length<=m*i:=fr_len h i
theorem frm_zero {B:Type} (f:Nat->List B):frm f 0=[]:=rfl
def RollV.none:RollV:=⟨[],[],[]⟩
def admitE (r:RollV) (w n:Int):Int:=if r.okB then (if MemberV.ok ⟨w,1,n⟩ then (if memIs r w then 11 else 0) else 3) else 14
def admP (r:RollV) (m:MemberV) (i:Nat):List MemberV:=(if memIs r ((i:Int)+1) then [memOf r ((i:Int)+1)] else [])++(if (i:Int)+1==m.no then [m] else [])
def admitR (r:RollV) (w n:Int):RollV:=if admitE r w n=0 then ⟨frm (admP r ⟨w,1,n⟩) 16,r.ns,r.xs⟩ else .none
theorem admP_len (r:RollV) (m:MemberV) (i:Nat):(admP r m i).length<=2:=by unfold admP;split<;>split<;>simp
theorem refAdmit_own (r:RollV) (w n:Int) (h:r.tiny):Abs.Spec Tryz.prog 94 [] [.agg r.cells,.int .i64 w,.int .i64 n] [.own 3 ((admitR r w n).ms.map MemberV.cells)] (.tup [.agg [.ref 0,.sl 12 ((admitR r w n).ns.map InstV.cells),.sl 4 ((admitR r w n).xs.map AssetV.cells)],.int .i64 (admitE r w n)]):=by
 have c1:=refRoll_spec r h.small;have c2:=refMember_spec ⟨w,1,n⟩;have c3:=fun n=>refMemberFind_spec r n h.small
 have c4:=twinRoll_frozen r h;simp only [RollV.cells] at c1 c3 c4 |-;simp only [MemberV.cells] at c2;refine sgo 64 3 [.cell 6 29,.tmp 7] mixed Tryz.func94 ?_;simp only [go_sem,seval];(with_reducible and_intros)<;>first|exact .dq|omega|skip
 refine CallN.pure c1 ?_;cases b1:r.okB
 ·have e:admitE r w n=14:=by simp [admitE,b1]
  simp only [go_sem,seval,admitR,e]<;>simp [RollV.none]
 simp only [go_sem,seval];(with_reducible and_intros)<;>first|exact .dq|omega|skip
 refine CallN.pure c2 ?_;cases b2:MemberV.ok ⟨w,1,n⟩
 ·have e:admitE r w n=3:=by simp [admitE,b1,b2]
  simp only [go_sem,seval,admitR,e]<;>simp [RollV.none]
 have c3w:=c3 w;obtain ⟨g,hg⟩:=nmE (memOf r w);rw [<- hg] at c3w;simp only [MemberV.cells] at c3w;simp only [go_sem,seval];(with_reducible and_intros)<;>first|exact .dq|omega|skip
 refine CallN.pure c3w ?_;cases b3:memIs r w
 case true =>
  have e:admitE r w n=11:=by simp [admitE,b1,b2,b3]
  simp only [go_sem,seval,admitR,e,b3]<;>simp [RollV.none]
 have e:admitE r w n=0:=by simp [admitE,b1,b2,b3]
 simp only [go_sem,seval,admitR,e,b3];(with_reducible and_intros)<;>first|exact .dq|omega|skip
 refine CallN.pure c4 ?_;clear c1 c2 c4 c3w hg;simp only [go_sem,seval];(with_reducible and_intros)<;>first|exact .dq|omega|skip
 refine LoopK.walk (S:=Unit) 16 [1,3,6,8,11] [64,112,144] (fun i _=>[(12,.int .i64 ((i:Int)+1))]) (fun i _=>[(192,.box [.ref 992,.sl 12 (r.ns.map InstV.cells),.sl 4 (r.xs.map AssetV.cells)]),(992,.own 3 ((frm (admP r ⟨w,1,n⟩) i).map MemberV.cells))]) (fun _ _=>True) () trivial ?_ ?_ ?_
 ·simp only [go_sem,seval,frm_zero]<;>simp
 ·intro i _ hi _ _ _;have hd:decide ((i:Int)+1<=16)=true:=decide_eq_true (by omega);have hw:IntKind.wrap .i64 ((i:Int)+1+1)=((i+1:Nat):Int)+1:=by rw [wr64 (by omega) (by omega)];omega
  have hs:=frm_step (admP r ⟨w,1,n⟩) i;have hl:=frm_len (admP_len r ⟨w,1,n⟩) i;obtain ⟨L,hL⟩:=nmE (frm (admP r ⟨w,1,n⟩) i);obtain ⟨k,hk⟩:=nmE ((i:Int)+1);have c3k:=c3 k;obtain ⟨g,hg⟩:=nmE (memOf r k);rw [<- hL] at hs hl |-;simp only [admP,<- hk] at hs;rw [<- hg] at c3k hs;rw [<- hk] at hd hw |-;simp only [MemberV.cells] at c3k;clear c3 hL;simp only [go_sem,seval,hd];(with_reducible and_intros)<;>first|exact .dq|omega|skip
  refine CallN.pure c3k ?_
  cases q1:memIs r k<;>cases q2:k==w<;>(
   simp only [q1,q2] at hs;simp only [go_sem,seval,q1,q2,hw,lml,List.length_append];(with_reducible and_intros)<;>first|exact .dq|omega|skip
   try refine RoundK.step () hi trivial ?_
   try simp only [go_sem,seval,hs])
  all_goals simp
 ·intro _ _ _;simp only [go_sem,seval]<;>simp
theorem refAdmit_spec (r:RollV) (w n:Int) (h:r.tiny):Abs.Spec Tryz.prog 94 [] [.agg r.cells,.int .i64 w,.int .i64 n] [] (.tup [.agg (admitR r w n).cells,.int .i64 (admitE r w n)]):=by
 refine Spec.frozen (refAdmit_own r w n h) [0] rfl ?_;intro r;rcases r with _ | r<;>rfl
def InstV.bare (i:InstV):InstV:={ i with set:=0,price:=0 }
def listE (r:RollV) (i:InstV):Int:=if r.okB then (if i.bare.ok then (if instIs r i.no then 11 else 0) else 3) else 14
def lstP (r:RollV) (m:InstV) (i:Nat):List InstV:=(if instIs r ((i:Int)+1) then [instOf r ((i:Int)+1)] else [])++(if (i:Int)+1==m.no then [m] else [])
def listR (r:RollV) (i:InstV):RollV:=if listE r i=0 then ⟨r.ms,frm (lstP r i.bare) 8,r.xs⟩ else .none
theorem lstP_len (r:RollV) (m:InstV) (i:Nat):(lstP r m i).length<=2:=by unfold lstP;split<;>split<;>simp
theorem refList_own (r:RollV) (x:InstV) (h:r.tiny):Abs.Spec Tryz.prog 95 [] [.agg r.cells,.agg x.cells] [.own 12 ((listR r x).ns.map InstV.cells)] (.tup [.agg [.sl 3 ((listR r x).ms.map MemberV.cells),.ref 0,.sl 4 ((listR r x).xs.map AssetV.cells)],.int .i64 (listE r x)]):=by
 have c1:=refRoll_spec r h.small;have c2:=refInst_ok_spec x.bare;have c3:=fun n=>refFindInst_spec r n h.small
 have c4:=twinRoll_frozen r h;simp only [RollV.cells] at c1 c3 c4 |-;simp only [InstV.cells,InstV.bare] at c2;refine sgo 62 2 [.cell 4 29,.tmp 5] mixed Tryz.func95 ?_;simp only [go_sem,seval,InstV.cells];(with_reducible and_intros)<;>first|exact .dq|omega|skip
 refine CallN.pure c1 ?_;cases b1:r.okB
 ·have e:listE r x=14:=by simp [listE,b1]
  simp only [go_sem,seval,listR,e]<;>simp [RollV.none]
 simp only [go_sem,seval];(with_reducible and_intros)<;>first|exact .dq|omega|skip
 refine CallN.pure c2 ?_;cases b2:x.bare.ok
 ·have e:listE r x=3:=by simp [listE,b1,b2]
  simp only [InstV.bare] at b2;simp only [go_sem,seval,b2,listR,e]<;>simp [RollV.none]
 have b2':=b2;simp only [InstV.bare] at b2';have c3w:=c3 x.no;obtain ⟨g,hg⟩:=nmE (instOf r x.no);rw [<- hg] at c3w;simp only [InstV.cells] at c3w;simp only [go_sem,seval,b2'];(with_reducible and_intros)<;>first|exact .dq|omega|skip
 refine CallN.pure c3w ?_;cases b3:instIs r x.no
 case true =>
  have e:listE r x=11:=by simp [listE,b1,b2,b3]
  simp only [go_sem,seval,listR,e,b3]<;>simp [RollV.none]
 have e:listE r x=0:=by simp [listE,b1,b2,b3]
 simp only [go_sem,seval,listR,e,b3];(with_reducible and_intros)<;>first|exact .dq|omega|skip
 refine CallN.pure c4 ?_;clear c1 c2 c4 c3w hg;simp only [go_sem,seval];(with_reducible and_intros)<;>first|exact .dq|omega|skip
 refine LoopK.walk (S:=Unit) 8 [2,3,4,8] [48,64,80] (fun i _=>[(9,.int .i64 ((i:Int)+1))]) (fun i _=>[(144,.box [.sl 3 (r.ms.map MemberV.cells),.ref 960,.sl 4 (r.xs.map AssetV.cells)]),(960,.own 12 ((frm (lstP r x.bare) i).map InstV.cells))]) (fun _ _=>True) () trivial ?_ ?_ ?_
 ·simp only [go_sem,seval,frm_zero]<;>simp
 ·intro i _ hi _ _ _;have hd:decide ((i:Int)+1<=8)=true:=decide_eq_true (by omega);have hw:IntKind.wrap .i64 ((i:Int)+1+1)=((i+1:Nat):Int)+1:=by rw [wr64 (by omega) (by omega)];omega
  have hs:=frm_step (lstP r x.bare) i;have hl:=frm_len (lstP_len r x.bare) i;obtain ⟨L,hL⟩:=nmE (frm (lstP r x.bare) i);obtain ⟨k,hk⟩:=nmE ((i:Int)+1);have c3k:=c3 k;obtain ⟨g,hg⟩:=nmE (instOf r k);rw [<- hL] at hs hl |-;simp only [lstP,<- hk,InstV.bare] at hs;rw [<- hg] at c3k hs;rw [<- hk] at hd hw |-;simp only [InstV.cells] at c3k;clear c3 hL;simp only [go_sem,seval,hd];(with_reducible and_intros)<;>first|exact .dq|omega|skip
  refine CallN.pure c3k ?_
  cases q1:instIs r k<;>cases q2:k==x.no<;>(
   simp only [q1,q2] at hs;simp only [go_sem,seval,q1,q2,hw,lml,List.length_append];(with_reducible and_intros)<;>first|exact .dq|omega|skip
   try refine RoundK.step () hi trivial ?_
   try simp only [go_sem,seval,hs,InstV.bare,InstV.cells])
  all_goals simp [InstV.cells]
 ·intro _ _ _;simp only [go_sem,seval]<;>simp
theorem refList_spec (r:RollV) (x:InstV) (h:r.tiny):Abs.Spec Tryz.prog 95 [] [.agg r.cells,.agg x.cells] [] (.tup [.agg (listR r x).cells,.int .i64 (listE r x)]):=by
 refine Spec.frozen (refList_own r x h) [0] rfl ?_;intro r;rcases r with _ | r<;>rfl
def astOf1 (r:RollV) (n:Int):AssetV:=getL AssetV.a n ⟨0,0,0,0⟩ r.xs
def holdE (r:RollV) (a:AssetV):Int:=if r.okB then (if a.ok&&!(astIs r a.a&&!((astOf1 r a.a).b==a.b)) then 0 else 3) else 14
def hldP (r:RollV) (a:AssetV) (i:Nat):List AssetV:=if (i:Int)+1==a.a then [a] else if astIs r ((i:Int)+1) then [astOf1 r ((i:Int)+1)] else []
def holdR (r:RollV) (a:AssetV):RollV:=if holdE r a=0 then ⟨r.ms,r.ns,frm (hldP r a) 6⟩ else .none
theorem hldP_len (r:RollV) (m:AssetV) (i:Nat):(hldP r m i).length<=1:=by
 unfold hldP;split
 ·simp
 ·split<;>simp
theorem refHold_own (r:RollV) (a:AssetV) (h:r.tiny):Abs.Spec Tryz.prog 96 [] [.agg r.cells,.agg a.cells] [.own 4 ((holdR r a).xs.map AssetV.cells)] (.tup [.agg [.sl 3 ((holdR r a).ms.map MemberV.cells),.sl 12 ((holdR r a).ns.map InstV.cells),.ref 0],.int .i64 (holdE r a)]):=by
 have c1:=refRoll_spec r h.small;have c2:=refAsset_spec a;have c3:∀ n,Abs.Spec Tryz.prog 75 [] [.agg r.cells,.int .i64 n] [] (.tup [.agg (astOf1 r n).cells,.bool (astIs r n)]):=fun n=>refHeld_spec r n h.small
 have c4:=twinRoll_frozen r h;simp only [RollV.cells] at c1 c3 c4 |-;simp only [AssetV.cells] at c2;have c3w:=c3 a.a;obtain ⟨g,hg⟩:=nmE (astOf1 r a.a);rw [<- hg] at c3w;simp only [AssetV.cells] at c3w;refine sgo 68 2 [.cell 4 29,.tmp 5] mixed Tryz.func96 ?_;simp only [go_sem,seval,AssetV.cells];(with_reducible and_intros)<;>first|exact .dq|omega|skip
 refine CallN.pure c1 ?_;cases b1:r.okB
 ·have e:holdE r a=14:=by simp [holdE,b1]
  simp only [go_sem,seval,holdR,e]<;>simp [RollV.none]
 simp only [go_sem,seval];(with_reducible and_intros)<;>first|exact .dq|omega|skip
 refine CallN.pure c3w ?_;simp only [go_sem,seval];(with_reducible and_intros)<;>first|exact .dq|omega|skip
 refine CallN.pure c2 ?_;cases b2:a.ok
 ·have e:holdE r a=3:=by simp [holdE,b1,b2]
  simp only [go_sem,seval,holdR,e]<;>simp [RollV.none]
 cases b3:astIs r a.a&&!(g.b==a.b)
 case true =>
  have e:holdE r a=3:=by simp only [holdE,b1,b2,<- hg,b3];rfl
  simp only [bae,Bool.not_eq_true'] at b3;simp only [go_sem,seval,holdR,e,b3.1,b3.2,bne,Bool.not_false]<;>simp [RollV.none]
 have e:holdE r a=0:=by simp only [holdE,b1,b2,<- hg,b3];rfl
 have hfin:∀ {Q:Prop},Q->Q:=fun q=>q
 cases q1:astIs r a.a<;>cases q2:g.b==a.b<;>(try (rw [q1,q2] at b3;exact absurd b3 (by decide)))
 all_goals simp only [go_sem,seval,holdR,e,q1,q2,bne]
 all_goals (with_reducible and_intros)<;>first|exact .dq|omega|skip
 all_goals refine CallN.pure c4 ?_
 all_goals clear c1 c2 c4 c3w hg q1 q2 b3
 all_goals simp only [go_sem,seval]
 all_goals (with_reducible and_intros)<;>first|exact .dq|omega|skip
 all_goals refine LoopK.walk (S:=Unit) 6 [2,3,4,8] [48,64,80] (fun i _=>[(9,.int .i64 ((i:Int)+1))]) (fun i _=>[(144,.box [.sl 3 (r.ms.map MemberV.cells),.sl 12 (r.ns.map InstV.cells),.ref 1056]),(1056,.own 4 ((frm (hldP r a) i).map AssetV.cells))]) (fun _ _=>True) () trivial ?_ ?_ ?_
 all_goals try (simp only [go_sem,seval,frm_zero]<;>simp;done)
 all_goals
  intro i _ hi _ _ _;have hd:decide ((i:Int)+1<=6)=true:=decide_eq_true (by omega);have hw:IntKind.wrap .i64 ((i:Int)+1+1)=((i+1:Nat):Int)+1:=by rw [wr64 (by omega) (by omega)];omega
  have hs:=frm_step (hldP r a) i;have hl:=frm_len (hldP_len r a) i;obtain ⟨L,hL⟩:=nmE (frm (hldP r a) i);obtain ⟨k,hk⟩:=nmE ((i:Int)+1);have c3k:=c3 k;obtain ⟨g,hg⟩:=nmE (astOf1 r k);rw [<- hL] at hs hl |-;simp only [hldP,<- hk] at hs;rw [<- hg] at c3k hs;rw [<- hk] at hd hw |-;simp only [AssetV.cells] at c3k;clear c3 hL;simp only [go_sem,seval,hd];(with_reducible and_intros)<;>first|exact .dq|omega|skip
  refine CallN.pure c3k ?_
  cases q2:k==a.a<;>cases q1:astIs r k<;>(
   simp only [q1,q2] at hs;simp only [go_sem,seval,q1,q2,hw,lml,List.length_append];(with_reducible and_intros)<;>first|exact .dq|omega|skip
   try refine RoundK.step () hi trivial ?_
   try simp only [go_sem,seval,hs])
  all_goals simp
theorem refHold_spec (r:RollV) (a:AssetV) (h:r.tiny):Abs.Spec Tryz.prog 96 [] [.agg r.cells,.agg a.cells] [] (.tup [.agg (holdR r a).cells,.int .i64 (holdE r a)]):=by
 refine Spec.frozen (refHold_own r a h) [0] rfl ?_;intro r;rcases r with _ | r<;>rfl
def updL {A:Type} (no:A->Int) (n:Int) (f:A->A):List A->List A
 | []=>[]
 | x :: r=>if no x=n then f x :: r else x :: updL no n f r
theorem updL_hit {A:Type} {no:A->Int} {n:Int} {f:A->A}:∀ {xs:List A} {i:Nat} (h:i < xs.length),(∀ j (hj:j < xs.length),j < i->no xs[j]≠n)->no xs[i]=n->updL no n f xs=xs.set i (f xs[i])
 | [],i,h,_,_=>by simp at h
 | x :: r,0,h,_,he=>by
  have he:no x=n:=he;simp [updL,he]
 | x :: r,i+1,h,hn,he=>by
  have h0:no x≠n:=hn 0 (by simp) (by omega);have h1:=updL_hit (f:=f) (xs:=r) (i:=i) (by simpa using h) (fun j hj hji=>hn (j+1) (by simpa using hj) (by omega)) he;simp only [updL,if_neg h0,h1,List.getElem_cons_succ,List.set_cons_succ]
theorem find_next {A:Type} {no:A->Int} {n:Int} {xs:List A} {i:Nat} (hI:∀ j (hj:j < xs.length),j < i->no xs[j]≠n) (h:i < xs.length) (hb:(no xs[i]==n)=false):∀ j (hj:j < xs.length),j < i+1->no xs[j]≠n:=by
 intro j hj hji;rcases Nat.lt_or_ge j i with h | h
 ·exact hI j hj h
 ·obtain rfl:j=i:=by omega
  simpa using hb
def tellE (r:RollV) (n p:Int):Int:=if r.okB then (if instIs r n then (if within p 1 1073741824 then 0 else 3) else 10) else 14
def InstV.told (p:Int) (x:InstV):InstV:={ x with set:=p }
def tellR (r:RollV) (n p:Int):RollV:=if tellE r n p=0 then ⟨r.ms,updL InstV.no n (InstV.told p) r.ns,r.xs⟩ else .none
theorem refTell_own (r:RollV) (n p:Int) (h:r.tiny):Abs.Spec Tryz.prog 232 [] [.agg r.cells,.int .i64 n,.int .i64 p] [.own 12 ((tellR r n p).ns.map InstV.cells)] (.tup [.agg [.sl 3 ((tellR r n p).ms.map MemberV.cells),.ref 0,.sl 4 ((tellR r n p).xs.map AssetV.cells)],.int .i64 (tellE r n p)]):=by
 have c1:=refRoll_spec r h.small;have c4:=twinRoll_N r h;have c5:=within11_spec p 1 1073741824;have hl:=h.2.1;simp only [RollV.cells] at c1 c4 |-;refine sgo 43 3 [.cell 6 29,.tmp 7] mixed Tryz.func232 ?_;simp only [go_sem,seval];(with_reducible and_intros)<;>first|exact .dq|omega|skip
 refine CallN.pure c1 ?_;cases b1:r.okB
 ·have e:tellE r n p=14:=by simp [tellE,b1]
  simp only [go_sem,seval,tellR,e]<;>simp [RollV.none]
 have e:tellE r n p=if instIs r n then (if within p 1 1073741824 then 0 else 3) else 10:=by simp [tellE,b1]
 simp only [tellR];rw [e];clear e c1;simp only [go_sem,seval];(with_reducible and_intros)<;>first|exact .dq|omega|skip
 refine CallN.gen [] [] false (by simp) ?_;simp only [go_sem,seval];refine CallG.intro c4 ?_;simp only [go_sem,seval];refine LoopK.walk (S:=Unit) r.ns.length [1,2,6,8] [112,144,257] (fun i _=>[(9,.int .i64 i)]) (fun _ _=>[]) (fun i _=>∀ j (hj:j < r.ns.length),j < i->r.ns[j].no≠n) () (by intros;omega) ?_ ?_ ?_
 ·simp only [go_sem,seval]<;>simp
 ·intro i _ hi hdi hwi hI;have hm:=map_at (c:=InstV.cells) r.ns hi;have hli:(i:Int) < (r.ns.length:Int):=by omega
  obtain ⟨x,hx⟩:=nmE (r.ns[i]);have hnext:=find_next hI hi;rw [<- hx] at hm hnext;simp only [InstV.cells] at hm;simp only [go_sem,seval,lml,hdi,hm];(with_reducible and_intros)<;>first|exact .dq|omega|skip
  cases b2:x.no==n
  ·simp only [go_sem,seval,hwi];refine RoundK.step () hi (hnext b2) ?_;simp only [go_sem,seval]
  have hxn:r.ns[i].no=n:=by rw [<- hx];simpa using b2
  obtain ⟨g1,g2⟩:=getL_hit (z:=InstV.zero) hi hI hxn;have hu:=updL_hit (f:=InstV.told p) hi hI hxn;have e1:instIs r n=true:=by simp [instIs,g2]
  rw [e1];simp only [go_sem,seval];refine CallN.pure c5 ?_;cases b3:within p 1 1073741824
  ·simp only [go_sem,seval]<;>simp [RollV.none]
  rw [hu,<- hx];simp only [go_sem,seval,lml,hm];(with_reducible and_intros)<;>first|exact .dq|omega|skip
  all_goals simp [InstV.told,List.map_set]
 ·intro _ hdx hI;obtain ⟨g1,g2⟩:=getL_miss (z:=InstV.zero) (fun j hj=>hI j hj hj);have e1:instIs r n=false:=by simp [instIs,g2]
  rw [e1];simp only [go_sem,seval,lml,hdx]<;>simp [RollV.none]
theorem refTell_spec (r:RollV) (n p:Int) (h:r.tiny):Abs.Spec Tryz.prog 232 [] [.agg r.cells,.int .i64 n,.int .i64 p] [] (.tup [.agg (tellR r n p).cells,.int .i64 (tellE r n p)]):=by
 refine Spec.frozen (refTell_own r n p h) [0] rfl ?_;intro r;rcases r with _ | r<;>rfl
def putE (r:RollV) (n p:Int):Int:=if r.okB then (if memIs r n then (if within p 1 3 then 0 else 3) else 10) else 14
def MemberV.put (p:Int) (x:MemberV):MemberV:={ x with state:=p }
def putR (r:RollV) (n p:Int):RollV:=if putE r n p=0 then ⟨updL MemberV.no n (MemberV.put p) r.ms,r.ns,r.xs⟩ else .none
theorem refPut_own (r:RollV) (n p:Int) (h:r.tiny):Abs.Spec Tryz.prog 244 [] [.agg r.cells,.int .i64 n,.int .i64 p] [.own 3 ((putR r n p).ms.map MemberV.cells)] (.tup [.agg [.ref 0,.sl 12 ((putR r n p).ns.map InstV.cells),.sl 4 ((putR r n p).xs.map AssetV.cells)],.int .i64 (putE r n p)]):=by
 have c1:=refRoll_spec r h.small;have c4:=twinRoll_M r h;have c5:=within11_spec p 1 3;have hl:=h.1;simp only [RollV.cells] at c1 c4 |-;refine sgo 43 3 [.cell 6 29,.tmp 7] mixed Tryz.func244 ?_;simp only [go_sem,seval];(with_reducible and_intros)<;>first|exact .dq|omega|skip
 refine CallN.pure c1 ?_;cases b1:r.okB
 ·have e:putE r n p=14:=by simp [putE,b1]
  simp only [go_sem,seval,putR,e]<;>simp [RollV.none]
 have e:putE r n p=if memIs r n then (if within p 1 3 then 0 else 3) else 10:=by simp [putE,b1]
 simp only [putR];rw [e];clear e c1;simp only [go_sem,seval];(with_reducible and_intros)<;>first|exact .dq|omega|skip
 refine CallN.gen [] [] false (by simp) ?_;simp only [go_sem,seval];refine CallG.intro c4 ?_;simp only [go_sem,seval];refine LoopK.walk (S:=Unit) r.ms.length [1,2,6,8] [112,144,256] (fun i _=>[(9,.int .i64 i)]) (fun _ _=>[]) (fun i _=>∀ j (hj:j < r.ms.length),j < i->r.ms[j].no≠n) () (by intros;omega) ?_ ?_ ?_
 ·simp only [go_sem,seval]<;>simp
 ·intro i _ hi hdi hwi hI;have hm:=map_at (c:=MemberV.cells) r.ms hi;have hli:(i:Int) < (r.ms.length:Int):=by omega
  obtain ⟨x,hx⟩:=nmE (r.ms[i]);have hnext:=find_next hI hi;rw [<- hx] at hm hnext;simp only [MemberV.cells] at hm;simp only [go_sem,seval,lml,hdi,hm];(with_reducible and_intros)<;>first|exact .dq|omega|skip
  cases b2:x.no==n
  ·simp only [go_sem,seval,hwi];refine RoundK.step () hi (hnext b2) ?_;simp only [go_sem,seval]
  have hxn:r.ms[i].no=n:=by rw [<- hx];simpa using b2
  obtain ⟨g1,g2⟩:=getL_hit (z:=MemberV.zero) hi hI hxn;have hu:=updL_hit (f:=MemberV.put p) hi hI hxn;have e1:memIs r n=true:=by simp [memIs,g2]
  rw [e1];simp only [go_sem,seval];refine CallN.pure c5 ?_;cases b3:within p 1 3
  ·simp only [go_sem,seval]<;>simp [RollV.none]
  rw [hu,<- hx];simp only [go_sem,seval,lml,hm];(with_reducible and_intros)<;>first|exact .dq|omega|skip
  all_goals simp [MemberV.put,List.map_set]
 ·intro _ hdx hI;obtain ⟨g1,g2⟩:=getL_miss (z:=MemberV.zero) (fun j hj=>hI j hj hj);have e1:memIs r n=false:=by simp [memIs,g2]
  rw [e1];simp only [go_sem,seval,lml,hdx]<;>simp [RollV.none]
theorem refPut_spec (r:RollV) (n p:Int) (h:r.tiny):Abs.Spec Tryz.prog 244 [] [.agg r.cells,.int .i64 n,.int .i64 p] [] (.tup [.agg (putR r n p).cells,.int .i64 (putE r n p)]):=by
 refine Spec.frozen (refPut_own r n p h) [0] rfl ?_;intro r;rcases r with _ | r<;>rfl
def mixL {A:Type} (f:A->A) (xs:List A) (i:Nat):List A:=(xs.take i).map f++xs.drop i
theorem mixL_zero {A:Type} (f:A->A) (xs:List A):mixL f xs 0=xs:=by simp [mixL]
theorem mixL_all {A:Type} (f:A->A) (xs:List A):mixL f xs xs.length=xs.map f:=by simp [mixL]
theorem mixL_len {A:Type} (f:A->A) (xs:List A) (i:Nat):(mixL f xs i).length=xs.length:=by simp [mixL];omega
theorem mixL_at {A:Type} (f:A->A) {xs:List A} {i:Nat} (h:i < xs.length):(mixL f xs i)[i]'(by rw [mixL_len];exact h)=xs[i]:=by
 have hl:((xs.take i).map f).length=i:=by simp;omega
 simp only [mixL];rw [List.getElem_append_right (by omega)];simp [Nat.min_eq_left (Nat.le_of_lt h)]
theorem mixL_set {A:Type} (f:A->A) {xs:List A} {i:Nat} (h:i < xs.length):(mixL f xs i).set i (f xs[i])=mixL f xs (i+1):=by
 have hl:((xs.take i).map f).length=i:=by simp;omega
 simp only [mixL];rw [List.set_append_right _ _ (by omega),hl,Nat.sub_self,List.drop_eq_getElem_cons h,List.set_cons_zero,List.take_succ_eq_append_getElem h,List.map_append,List.append_assoc];rfl
theorem mixL_same {A:Type} (f:A->A) {xs:List A} {i:Nat} (h:i < xs.length) (hf:f xs[i]=xs[i]):mixL f xs (i+1)=mixL f xs i:=by
 rw [<- mixL_set f h,hf]
 conv=>lhs;rw [<- mixL_at f h]
 exact List.set_getElem_self _
def InstV.turn (x:InstV):InstV:=if x.set==0 then x else { x with price:=x.set,set:=0 }
def turnR (r:RollV):RollV:=⟨r.ms,r.ns.map InstV.turn,r.xs⟩
theorem refTurn_own (r:RollV) (h:r.tiny):Abs.Spec Tryz.prog 239 [] [.agg r.cells] [.own 12 (r.ns.map InstV.turn |>.map InstV.cells)] (.agg [.sl 3 (r.ms.map MemberV.cells),.ref 0,.sl 4 (r.xs.map AssetV.cells)]):=by
 have c4:=twinRoll_N r h;have hl:=h.2.1;simp only [RollV.cells] at c4 |-;refine sgo 38 1 [.cell 2 29] mixed Tryz.func239 ?_;simp only [go_sem,seval];(with_reducible and_intros)<;>first|exact .dq|omega|skip
 refine CallN.gen [] [] false (by simp) ?_;simp only [go_sem,seval];refine CallG.intro c4 ?_;simp only [go_sem,seval];(with_reducible and_intros)<;>first|exact .dq|omega|skip
 refine LoopK.walk (S:=Unit) r.ns.length [2,3] [48] (fun i _=>[(4,.int .i64 i)]) (fun i _=>[(64,.box [.sl 3 (r.ms.map MemberV.cells),.ref 368,.sl 4 (r.xs.map AssetV.cells)]),(368,.own 12 ((mixL InstV.turn r.ns i).map InstV.cells))]) (fun _ _=>True) () trivial ?_ ?_ ?_
 ·simp only [go_sem,seval,mixL_zero]<;>simp
 ·intro i _ hi hdi hwi _;have hlen:=mixL_len InstV.turn r.ns i;have hi2:i < (mixL InstV.turn r.ns i).length:=by omega
  have hm:=map_at (c:=InstV.cells) (mixL InstV.turn r.ns i) hi2;have hat:=mixL_at InstV.turn hi;have hset:=mixL_set InstV.turn hi;have hsame:=mixL_same InstV.turn hi;have hli:(i:Int) < (r.ns.length:Int):=by omega
  obtain ⟨x,hx⟩:=nmE (r.ns[i]);rw [hat] at hm;rw [<- hx] at hm hset hsame;obtain ⟨M,hM⟩:=nmE (mixL InstV.turn r.ns i);rw [<- hM] at hm hset hsame hlen |-;simp only [InstV.cells] at hm;simp only [go_sem,seval,lml,hlen,hdi,hm];(with_reducible and_intros)<;>first|exact .dq|omega|skip
  cases b2:x.set==0
  ·have hset:M.set i { x with price:=x.set,set:=0 }=mixL InstV.turn r.ns (i+1):=by rw [<- hset];simp only [InstV.turn,b2];rfl
   have hsa:∀ Z,((M.map InstV.cells).set i Z).getD i []=Z:=fun Z=>by simp [hlen,hi]
   simp only [go_sem,seval,bne,b2,lml,hlen,hm,hwi,hsa];(with_reducible and_intros)<;>first|exact .dq|omega|skip
   all_goals first
    | (simp only [List.length_set,lml];omega)
    | (refine RoundK.step () hi trivial ?_
       simp only [go_sem,seval,<- hset,List.map_set,List.set_set,hsa])
  ·have hsame:=hsame (by simp [InstV.turn,b2]);simp only [go_sem,seval,bne,b2,hwi];refine RoundK.step () hi trivial ?_;simp only [go_sem,seval,hsame]
 ·intro _ hdx _;have hlen:=mixL_len InstV.turn r.ns r.ns.length;simp only [go_sem,seval,lml,hlen,hdx,mixL_all]
theorem refTurn_spec (r:RollV) (h:r.tiny):Abs.Spec Tryz.prog 239 [] [.agg r.cells] [] (.agg (turnR r).cells):=by
 refine Spec.frozen (refTurn_own r h) [0] rfl ?_;intro r;rcases r with _ | r<;>rfl
def thoseL (r:RollV) (ss:List Int):List Int:=pick (fun m:MemberV=>inK ss m.state) MemberV.no r.ms
theorem refThose_own (r:RollV) (ss:List Int) (h:r.tiny) (hs:ss.length < 2 ^ 30):Abs.Spec Tryz.prog 240 [] [.agg r.cells,.sl 1 (ints ss)] [.own 1 (ints (thoseL r ss))] (.ref 0):=by
 have hl:=h.1;simp only [RollV.cells];refine sgo 47 2 [.tmp 4] mixed Tryz.func240 ?_;simp only [go_sem,seval];refine LoopK.walk (S:=Unit) r.ms.length [1,2] [48] (fun i _=>[(6,.int .i64 i),(5,.ref 736)]) (fun i _=>[(736,.own 1 (ints (pick (fun m:MemberV=>inK ss m.state) MemberV.no (r.ms.take i))))]) (fun _ _=>True) () trivial ?_ ?_ ?_
 ·simp only [go_sem,seval]<;>simp [pick,ints]
 ·intro i _ hi hdi hwi _;have hm:=map_at (c:=MemberV.cells) r.ms hi;have hst:=pickI_step (fun m:MemberV=>inK ss m.state) MemberV.no hi;have hlen:=pick_len (fun m:MemberV=>inK ss m.state) MemberV.no (r.ms.take i);have hlt:(r.ms.take i).length=i:=by simp;omega
  have hli:(i:Int) < (r.ms.length:Int):=by omega
  obtain ⟨L,hL⟩:=nmE (pick (fun m:MemberV=>inK ss m.state) MemberV.no (r.ms.take i));obtain ⟨x,hx⟩:=nmE (r.ms[i]);rw [<- hx] at hm hst;rw [<- hL] at hst hlen |-;simp only [MemberV.cells] at hm;simp only [go_sem,seval,lml,hdi,ints_len];refine LoopK.walk (S:=Unit) ss.length [1,2,5,6] [48,736] (fun k _=>[(8,.int .i64 k),(7,.bool (inK (ss.take k) x.state))]) (fun _ _=>[]) (fun _ _=>True) () trivial ?_ ?_ ?_
  ·simp only [go_sem,seval]<;>simp [inK]
  ·intro k _ hk hdk hwk _;have hst:=inK_step ss x.state hk;have hlk:(k:Int) < (ss.length:Int):=by omega
   cases hb:inK (ss.take k) x.state
   ·rw [hb,Bool.false_or] at hst;simp only [go_sem,seval,lml,ints_len,hdk,ints_at ss hk,hm,hwk];(with_reducible and_intros)<;>first|exact .dq|omega|skip
    refine RoundK.step () hk trivial ?_;simp only [go_sem,seval,hst]
   ·rw [hb,Bool.true_or] at hst;simp only [go_sem,seval,lml,ints_len,hdk,ints_at ss hk,hm,hwk];(with_reducible and_intros)<;>first|exact .dq|omega|skip
    refine RoundK.step () hk trivial ?_;simp only [go_sem,seval,hst]
  ·intro _ hdk _;cases b1:inK ss x.state
   ·rw [b1] at hst;simp only [go_sem,seval,ints_len,lml,hdk,List.take_length,b1,hwi];(with_reducible and_intros)<;>first|exact .dq|omega|skip
    refine RoundK.step () hi trivial ?_;simp only [go_sem,seval,hst]<;>simp
   ·rw [b1] at hst;simp only [go_sem,seval,ints_len,lml,hdk,List.take_length,b1,hm,hwi];(with_reducible and_intros)<;>first|exact .dq|omega|skip
    refine RoundK.step () hi trivial ?_;simp only [go_sem,seval,hst]<;>simp
 ·intro _ hdx _;simp only [go_sem,seval,ints_len,lml,hdx,List.take_length,thoseL]
theorem refThose_spec (r:RollV) (ss:List Int) (h:r.tiny) (hs:ss.length < 2 ^ 30):Abs.Spec Tryz.prog 240 [] [.agg r.cells,.sl 1 (ints ss)] [] (.sl 1 (ints (thoseL r ss))):=by
 refine Spec.frozen (refThose_own r ss h hs) [0] rfl ?_;intro r;rcases r with _ | r<;>rfl
def posIs (w n:Int) (p:PosV):Bool:=p.who==w&&p.inst==n
def posOf (w n:Int):List PosV->PosV
 | []=>⟨w,n,0,0⟩
 | p :: r=>if posIs w n p then p else posOf w n r
theorem refOf11_spec (b:BookV) (w n:Int) (hb:b.small):Abs.Spec Tryz.prog 28 [] [.agg b.cells,.agg [.int .i64 w,.int .i64 n]] [] (.agg (posOf w n b.qs).cells):=by
 obtain ⟨h1,h2⟩:=hb;simp only [BookV.cells];refine sgo 42 2 [.cell 4 70] mixed Tryz.func28 ?_;simp only [go_sem,seval,lml];refine LoopK.walk (S:=Unit) b.qs.length [2,3,4] [48,64,80] (fun i _=>[(5,.int .i64 i)]) (fun _ _=>[]) (fun i _=>posOf w n (b.qs.drop i)=posOf w n b.qs) () rfl ?_ ?_ ?_
 ·simp only [go_sem,seval]<;>simp
 ·intro i _ hi hdi hwi hI;have hm:=map_at (c:=PosV.cells) b.qs hi;have hli:(i:Int) < (b.qs.length:Int):=by omega
  obtain ⟨x,hx⟩:=nmE (b.qs[i]);rw [drop_at hi,<- hx] at hI;rw [<- hx] at hm;simp only [posOf,posIs] at hI;simp only [PosV.cells] at hm;cases q1:x.who==w
  ·simp only [q1,Bool.false_and,bfe,if_false] at hI;simp only [go_sem,seval,lml,hdi,hm,q1,hwi];(with_reducible and_intros)<;>first|exact .dq|omega|skip
   refine RoundK.step () hi hI ?_;simp only [go_sem,seval]
  cases q2:x.inst==n
  ·simp only [q1,q2,Bool.and_false,bfe,if_false] at hI;simp only [go_sem,seval,lml,hdi,hm,q1,q2,hwi];(with_reducible and_intros)<;>first|exact .dq|omega|skip
   refine RoundK.step () hi hI ?_;simp only [go_sem,seval]
  simp only [q1,q2,Bool.and_self,if_true] at hI;rw [<- hI];simp only [go_sem,seval,lml,hdi,hm,q1,q2];(with_reducible and_intros)<;>first|exact .dq|omega|skip
 ·intro _ hdx hI;rw [List.drop_length] at hI;rw [<- hI];simp only [go_sem,seval,lml,hdx,posOf]
def onB (n:Int) (t:TradeV):Bool:=t.no==n&&!t.off
def findL (n:Int):List TradeV->Int
 | []=>-1
 | t :: r=>if onB n t then 0 else if findL n r < 0 then -1 else findL n r+1
theorem findL_hit {n:Int}:∀ {xs:List TradeV} {i:Nat} (h:i < xs.length),(∀ j (hj:j < xs.length),j < i->onB n xs[j]=false)->onB n xs[i]=true->findL n xs=i
 | [],i,h,_,_=>by simp at h
 | x :: r,0,h,_,he=>by
  have he:onB n x=true:=he;simp [findL,he]
 | x :: r,i+1,h,hn,he=>by
  have h0:onB n x=false:=hn 0 (by simp) (by omega);have h2:=findL_hit (xs:=r) (i:=i) (by simpa using h) (fun j hj hji=>hn (j+1) (by simpa using hj) (by omega)) he;simp only [findL,h0,h2];rw [if_neg (by simp),if_neg (by omega)];omega
theorem findL_miss {n:Int}:∀ {xs:List TradeV},(∀ j (hj:j < xs.length),onB n xs[j]=false)->findL n xs = -1
 | [],_=>rfl
 | x :: r,hn=>by
  have h0:onB n x=false:=hn 0 (by simp);have h2:=findL_miss (xs:=r) (fun j hj=>hn (j+1) (by simpa using hj));simp [findL,h0,h2]
theorem refFind_spec (b:BookV) (n:Int) (hb:b.small):Abs.Spec Tryz.prog 233 [] [.agg b.cells,.int .i64 n] [] (.int .i64 (findL n b.ts)):=by
 obtain ⟨h1,h2⟩:=hb;simp only [BookV.cells];refine sgo 31 2 [.tmp 4] mixed Tryz.func233 ?_;simp only [go_sem,seval,lml];refine LoopK.walk (S:=Unit) b.ts.length [1,2] [48] (fun i _=>[(5,.int .i64 i)]) (fun _ _=>[]) (fun i _=>∀ j (hj:j < b.ts.length),j < i->onB n b.ts[j]=false) () (by intros;omega) ?_ ?_ ?_
 ·simp only [go_sem,seval]<;>simp
 ·intro i _ hi hdi hwi hI;have hm:=map_at (c:=TradeV.cells) b.ts hi;have hli:(i:Int) < (b.ts.length:Int):=by omega
  have hhit:=findL_hit hi hI
  have hnext:onB n b.ts[i]=false->∀ j (hj:j < b.ts.length),j < i+1->onB n b.ts[j]=false:=fun h0 j hj hji=>by
   rcases Nat.lt_or_ge j i with h | h
   ·exact hI j hj h
   ·obtain rfl:j=i:=by omega
    exact h0
  obtain ⟨x,hx⟩:=nmE (b.ts[i]);rw [<- hx] at hm hhit hnext;simp only [onB] at hhit hnext;simp only [TradeV.cells] at hm;cases q1:x.no==n
  ·simp only [go_sem,seval,lml,hdi,hm,q1,hwi];(with_reducible and_intros)<;>first|exact .dq|omega|skip
   refine RoundK.step () hi (hnext (by simp [q1])) ?_;simp only [go_sem,seval]
  cases q2:x.off
  case true =>
   simp only [go_sem,seval,lml,hdi,hm,q1,q2,hwi];(with_reducible and_intros)<;>first|exact .dq|omega|skip
   refine RoundK.step () hi (hnext (by simp [q2])) ?_;simp only [go_sem,seval]
  simp only [go_sem,seval,lml,hdi,hm,q1,q2,hhit (by simp [q1,q2])];(with_reducible and_intros)<;>first|exact .dq|omega|skip
 ·intro _ hdx hI;simp only [go_sem,seval,lml,hdx,findL_miss (fun j hj=>hI j hj hj)]
theorem refPrice_spec (x:InstV):Abs.Spec Tryz.prog 20 [] [.agg x.cells] [] (.tup [.int .i64 (if x.set==0 then x.price else x.set),.bool (!(x.set==0&&x.price==0))]):=by
 simp only [InstV.cells];refine sgo 14 1 [.tmp 2,.tmp 3] mixed Tryz.func20 ?_;cases q1:x.set==0<;>cases q2:x.price==0<;>simp only [go_sem,seval,bne,q1,q2,Bool.false_and,Bool.and_self,Bool.and_false,Bool.not_true,Bool.not_false]
 all_goals (with_reducible and_intros)<;>first|exact .dq|omega|skip
theorem refMul_spec (a b:Int) (ha:I64 a) (hb:I64 b):Abs.Spec Tryz.prog 291 [] [.int .i64 a,.int .i64 b] [] (.tup [.int .i64 (if inR (a*b) then a*b else 0),.bool (inR (a*b))]):=by
 have h1:=refTimesI a b ha hb;have h2:=refInt_spec (a*b);simp only [wd] at h1 h2;refine sgo 12 2 [.tmp 4,.tmp 5] mixed Tryz.func291 ?_;simp only [go_sem,seval];(with_reducible and_intros)<;>first|exact .dq|omega|skip
 refine CallN.pure h1 ?_;simp only [go_sem,seval];(with_reducible and_intros)<;>first|exact .dq|omega|skip
 refine CallN.pure h2 ?_;simp only [go_sem,seval]
def sizedB (t:TradeV):Bool:=within t.qty 1 1048576&&within t.price 1 1073741824
def tradeE (r:RollV) (t:TradeV):Int:=if r.okB then (if sizedB t then (if instIs r t.inst&&(memIs r t.buyer&&memIs r t.seller) then (if t.buyer==t.seller then 16 else if stOf r t.buyer==1&&stOf r t.seller==1 then 0 else 14) else 10) else 3) else 14
theorem refTrade_spec (r:RollV) (t:TradeV) (h:r.tiny):Abs.Spec Tryz.prog 230 [] [.agg r.cells,.agg t.cells] [] (.int .i64 (tradeE r t)):=by
 have c1:=refRoll_spec r h.small;have c2:Abs.Spec Tryz.prog 262 [] [.agg t.cells] [] (.bool (sizedB t)):=refSized_spec t;have c3:=refFindInst_spec r t.inst h.small;have c4:=refMemberFind_spec r t.buyer h.small;have c5:=refMemberFind_spec r t.seller h.small;obtain ⟨gi,hgi⟩:∃ g,g=instOf r t.inst:=⟨_,rfl⟩
 obtain ⟨gb,hgb⟩:∃ g,g=memOf r t.buyer:=⟨_,rfl⟩
 obtain ⟨gs,hgs⟩:∃ g,g=memOf r t.seller:=⟨_,rfl⟩
 have e:tradeE r t=if r.okB then (if sizedB t then (if instIs r t.inst&&(memIs r t.buyer&&memIs r t.seller) then (if t.buyer==t.seller then 16 else if gb.state==1&&gs.state==1 then 0 else 14) else 10) else 3) else 14:=by rw [hgb,hgs];rfl
 rw [e];rw [<- hgi] at c3;rw [<- hgb] at c4;rw [<- hgs] at c5;clear e hgi hgb hgs;simp only [RollV.cells,InstV.cells,MemberV.cells,TradeV.cells] at *;refine sgo 61 2 [.tmp 4] mixed Tryz.func230 ?_;simp only [go_sem,seval];(with_reducible and_intros)<;>first|exact .dq|omega|skip
 refine CallN.pure c1 ?_;cases b1:r.okB
 ·simp only [go_sem,seval]
 simp only [go_sem,seval];(with_reducible and_intros)<;>first|exact .dq|omega|skip
 refine CallN.pure c2 ?_;cases b2:sizedB t
 ·simp only [go_sem,seval]
 simp only [go_sem,seval];(with_reducible and_intros)<;>first|exact .dq|omega|skip
 refine CallN.pure c3 ?_;simp only [go_sem,seval];(with_reducible and_intros)<;>first|exact .dq|omega|skip
 refine CallN.pure c4 ?_;simp only [go_sem,seval];(with_reducible and_intros)<;>first|exact .dq|omega|skip
 refine CallN.pure c5 ?_;clear c1 c2 c3 c4 c5;cases q1:instIs r t.inst<;>simp only [go_sem,seval,q1,Bool.false_and,Bool.true_and]<;>(with_reducible and_intros)<;>first|exact .dq|omega|skip
 cases q2:memIs r t.buyer<;>simp only [go_sem,seval,q1,q2,Bool.false_and,Bool.true_and]<;>(with_reducible and_intros)<;>first|exact .dq|omega|skip
 cases q3:memIs r t.seller<;>simp only [go_sem,seval,q1,q2,q3]<;>(with_reducible and_intros)<;>first|exact .dq|omega|skip
 cases q4:t.buyer==t.seller<;>simp only [go_sem,seval,q4]<;>(with_reducible and_intros)<;>first|exact .dq|omega|skip
 cases q5:gb.state==1<;>simp only [go_sem,seval,bne,q5,Bool.false_and,Bool.true_and]<;>(with_reducible and_intros)<;>first|exact .dq|omega|skip
 cases q6:gs.state==1<;>simp only [go_sem,seval,bne,q6]<;>(with_reducible and_intros)<;>first|exact .dq|omega|skip
def tqty (t:TradeV) (back:Bool):Int:=if back then -t.qty else t.qty
def legsL (t:TradeV) (back:Bool):List PosV:=if sizedB t then [⟨t.buyer,t.inst,tqty t back,tqty t back*t.price⟩,⟨t.seller,t.inst,-tqty t back,-tqty t back*t.price⟩] else []
theorem refLegs11_own (t:TradeV) (back:Bool):Abs.Spec Tryz.prog 290 [] [.agg t.cells,.bool back] [.own 4 ((legsL t back).map PosV.cells)] (.ref 0):=by
 have c2:Abs.Spec Tryz.prog 262 [] [.agg t.cells] [] (.bool (sizedB t)):=refSized_spec t;simp only [TradeV.cells] at *;refine sgo 39 2 [.tmp 4] mixed Tryz.func290 ?_;simp only [go_sem,seval];(with_reducible and_intros)<;>first|exact .dq|omega|skip
 refine CallN.pure c2 ?_;cases b2:sizedB t
 ·simp only [go_sem,seval,legsL,b2]<;>simp
 have hz:=b2;simp only [sizedB,within,bae,decide_eq_true_eq] at hz;obtain ⟨⟨a1,a2⟩,a3,a4⟩:=hz;cases back
 ·have m1:=mul_range (a:=t.qty) (b:=t.price) (A:=1048576) (B:=1073741824) (by omega) (by omega);have m2:=mul_range (a:=-t.qty) (b:=t.price) (A:=1048576) (B:=1073741824) (by omega) (by omega);have w1:IntKind.wrap .i64 (0-t.qty) = -t.qty:=by rw [wr64 (by omega) (by omega)];omega
  have w2:IntKind.wrap .i64 (t.qty*t.price)=t.qty*t.price:=wr64 (by omega) (by omega);have w3:IntKind.wrap .i64 (-t.qty*t.price) = -t.qty*t.price:=wr64 (by omega) (by omega);simp only [go_sem,seval,w1,w2,w3,legsL,b2,tqty]<;>simp
 ·have m1:=mul_range (a:=-t.qty) (b:=t.price) (A:=1048576) (B:=1073741824) (by omega) (by omega);have m2:=mul_range (a:=t.qty) (b:=t.price) (A:=1048576) (B:=1073741824) (by omega) (by omega);have w1:IntKind.wrap .i64 (0-t.qty) = -t.qty:=by rw [wr64 (by omega) (by omega)];omega
  have w0:IntKind.wrap .i64 (0 - -t.qty) = - -t.qty:=by rw [wr64 (by omega) (by omega)];omega
  have w2:IntKind.wrap .i64 (-t.qty*t.price) = -t.qty*t.price:=wr64 (by omega) (by omega);have hn:- -t.qty=t.qty:=by omega
  have w3:IntKind.wrap .i64 (- -t.qty*t.price) = - -t.qty*t.price:=by rw [hn];exact wr64 (by omega) (by omega)
  simp only [go_sem,seval,w1,w0,w2,w3,legsL,b2,tqty]<;>simp
theorem refLegs11_spec (t:TradeV) (back:Bool):Abs.Spec Tryz.prog 290 [] [.agg t.cells,.bool back] [] (.sl 4 ((legsL t back).map PosV.cells)):=by
 refine Spec.frozen (refLegs11_own t back) [0] rfl ?_;intro r;rcases r with _ | r<;>rfl
theorem refTimes3_spec (a b c:Int) (ha:I64 a) (hb:I64 (b*c)):Abs.Spec Tryz.prog 63 [] [.int .i64 a,.int .i64 b,.int .i64 c] [] (.agg (wd (a*(b*c)))):=by
 have h1:=refTimesI a (b*c) ha hb;have w:IntKind.wrap .i64 (b*c)=b*c:=wr64 hb.1 (by have:=hb.2;omega);simp only [wd] at h1 |-;refine sgo 12 3 [.cell 6 110] mixed Tryz.func63 ?_;simp only [go_sem,seval,w];(with_reducible and_intros)<;>first|exact .dq|omega|skip
 refine CallN.pure h1 ?_;simp only [go_sem,seval]
def worthS (p:PosV) (m pr:Int):Int:=p.qty*(pr*m) + -p.cost*m
theorem refWorth_spec (p:PosV) (m pr:Int) (hq:I64 p.qty) (hc:inR p.cost=true) (hm:0<=m/\m<=1024) (hp:0<=pr/\pr<=1073741824):Abs.Spec Tryz.prog 21 [] [.agg p.cells,.int .i64 m,.int .i64 pr] [] (.tup [.int .i64 (if inR (worthS p m pr) then worthS p m pr else 0),.bool (inR (worthS p m pr))]):=by
 have k1:=mul_range (a:=pr) (b:=m) (A:=1073741824) (B:=1024) (by omega) (by omega);have hcr:=inR_iff.1 hc;have k0:0<=pr*m:=Int.mul_nonneg hp.1 hm.1;have k2:=mul_range (a:=p.qty) (b:=pr*m) (A:=9223372036854775808) (B:=1099511627776) (by have:=hq.1;have:=hq.2;omega) (by omega);have k3:=mul_range (a:=-p.cost) (b:=m) (A:=4611686018427387904) (B:=1024) (by omega) (by omega);have h1:=refTimes3_spec p.qty pr m hq ⟨by omega,by omega⟩;have h2:=refTimesI (-p.cost) m ⟨by omega,by omega⟩ ⟨by omega,by omega⟩;have i1:in2 (p.qty*(pr*m))=true:=by simp only [in2,bae,decide_eq_true_eq];omega
 have i2:in2 (-p.cost*m)=true:=by simp only [in2,bae,decide_eq_true_eq];omega
 have h3:=refSum_spec [p.qty*(pr*m),-p.cost*m] (by simp) (by intro n hn;simp only [List.mem_cons,List.not_mem_nil,or_false] at hn;rcases hn with rfl | rfl<;>assumption);have es:sumL [p.qty*(pr*m),-p.cost*m]=worthS p m pr:=by simp [sumL,worthS]
 have i3:in2 (worthS p m pr)=true:=by
  have hw:worthS p m pr=p.qty*(pr*m) + -p.cost*m:=rfl;rw [hw];clear hw es h3 h2 h1;simp only [in2,bae,decide_eq_true_eq];constructor<;>omega
 rw [es,i3,if_pos rfl] at h3;have h4:=refInt_spec (worthS p m pr);have w:IntKind.wrap .i64 (0-p.cost) = -p.cost:=by rw [wr64 (by omega) (by omega)];omega
 simp only [wds,wd,List.map_cons,List.map_nil] at h1 h2 h3 h4;simp only [PosV.cells];obtain ⟨A,hA⟩:=nmE (p.qty*(pr*m));obtain ⟨B,hB⟩:=nmE (-p.cost*m);obtain ⟨C,hC⟩:=nmE (worthS p m pr);rw [<- hA] at h1 h3;rw [<- hB] at h2 h3;rw [<- hC] at h3 h4 |-;clear hA hB hC k1 k0 k2 k3 i1 i2 es i3;refine sgo 31 3 [.tmp 6,.tmp 7] mixed Tryz.func21 ?_;simp only [go_sem,seval];(with_reducible and_intros)<;>first|exact .dq|omega|skip
 refine CallN.pure h1 ?_;simp only [go_sem,seval,w];(with_reducible and_intros)<;>first|exact .dq|omega|skip
 refine CallN.pure h2 ?_;simp only [go_sem,seval];(with_reducible and_intros)<;>first|exact .dq|omega|skip
 refine CallN.gen [] [] true (by simp) ?_;simp only [go_sem,seval];refine CallG.intro h3 ?_;simp only [go_sem,seval];(with_reducible and_intros)<;>first|exact .dq|omega|skip
 refine CallN.pure h4 ?_;simp only [go_sem,seval]
theorem twinBook_own (b:BookV) (h:b.small):Abs.Spec Tryz.prog 41 [] [.agg b.cells] [.own 7 (b.ts.map TradeV.cells)] (.agg [.int .i64 b.next,.ref 0,.sl 4 (b.qs.map PosV.cells)]):=by
 refine Spec.frozen (twinBook_spec b h) [1] rfl ?_;intro r;rcases r with _ | _ | r<;>rfl
def plegB (p:PosV):Bool:=keyB p.who p.inst&&(inR p.qty&&inR p.cost)
def flatB (g:List PosV):Bool:=(List.range 8).all fun i=>sumL (pick (fun p:PosV=>p.inst==(i:Int)+1) PosV.qty g)==0
def adQ (b:BookV) (g:List PosV) (w n:Int):Int:=sumL ((posOf w n b.qs).qty :: pick (posIs w n) PosV.qty g)
def adC (b:BookV) (g:List PosV) (w n:Int):Int:=sumL ((posOf w n b.qs).cost :: pick (posIs w n) PosV.cost g)
def adOk (b:BookV) (g:List PosV) (w n:Int):Bool:=inR (adQ b g w n)&&(inR (adC b g w n)&&within (adQ b g w n) (-1099511627776) 1099511627776)
def adP (b:BookV) (g:List PosV) (w n:Int):List PosV:=if adQ b g w n==0&&adC b g w n==0 then [] else [⟨w,n,adQ b g w n,adC b g w n⟩]
def adN (b:BookV) (g:List PosV) (w:Int) (i:Nat):List PosV:=(List.range i).flatMap fun (k:Nat)=>adP b g w ((k:Int)+1)
def adW (b:BookV) (g:List PosV) (i:Nat):List PosV:=(List.range i).flatMap fun (k:Nat)=>adN b g ((k:Int)+1) 8
def adOkN (b:BookV) (g:List PosV) (w:Int):Bool:=(List.range 8).all fun (k:Nat)=>adOk b g w ((k:Int)+1)
def adOkW (b:BookV) (g:List PosV):Bool:=(List.range 16).all fun (k:Nat)=>adOkN b g ((k:Int)+1)
def addE (b:BookV) (g:List PosV):Int:=if b.okB then (if g.all plegB then (if flatB g then (if adOkW b g then 0 else 1) else 12) else 3) else 14
def addB (b:BookV) (g:List PosV):BookV:=if addE b g=0 then ⟨b.next,b.ts,adW b g 16⟩ else ⟨0,[],[]⟩
theorem adP_len (b:BookV) (g:List PosV) (w n:Int):(adP b g w n).length<=1:=by unfold adP;split<;>simp
theorem adN_len (b:BookV) (g:List PosV) (w:Int) (i:Nat):(adN b g w i).length<=i:=by
 have:=fr_len (f:=fun (k:Nat)=>adP b g w ((k:Int)+1)) (m:=1) (fun k=>adP_len _ _ _ _) i;simpa [adN] using this
theorem adW_len (b:BookV) (g:List PosV) (i:Nat):(adW b g i).length<=8*i:=fr_len (f:=fun (k:Nat)=>adN b g ((k:Int)+1) 8) (fun k=>adN_len _ _ _ _) i
theorem posOf_rng {w n:Int}:∀ {qs:List PosV},(∀ p∈qs,p.rng)->I64 (posOf w n qs).qty/\I64 (posOf w n qs).cost
 | [],_=>by simp [posOf,I64]
 | p :: r,h=>by
  simp only [posOf];split
  ·have:=h p (by simp);exact ⟨this.2.2.1,this.2.2.2⟩
  ·exact posOf_rng fun q hq=>h q (by simp [hq])
theorem refAdd11_own (b:BookV) (g:List PosV) (hb:b.small) (hr:∀ p∈b.qs,p.rng) (hg:g.length < 2 ^ 29):Abs.Spec Tryz.prog 289 [] [.agg b.cells,.sl 4 (g.map PosV.cells)] [.own 7 ((addB b g).ts.map TradeV.cells),.own 4 ((addB b g).qs.map PosV.cells)] (.tup [.agg [.int .i64 (addB b g).next,.ref 0,.ref 1],.int .i64 (addE b g)]):=by
 have c1:=refBook_spec b hb hr;have c2:=twinBook_own b hb;have c3:=fun w n=>refOf11_spec b w n hb
 have hpr:=fun w n=>posOf_rng (w:=w) (n:=n) hr
 simp only [BookV.cells] at c1 c2 c3 |-;refine sgo 199 2 [.cell 4 33,.tmp 5] mixed Tryz.func289 ?_;simp only [go_sem,seval];(with_reducible and_intros)<;>first|exact .dq|omega|skip
 refine CallN.pure c1 ?_;cases b1:b.okB
 ·have e:addE b g=14:=by simp [addE,b1]
  simp only [go_sem,seval,addB,e]<;>simp
 have e:addE b g=if g.all plegB then (if flatB g then (if adOkW b g then 0 else 1) else 12) else 3:=by simp [addE,b1]
 simp only [addB];rw [e];clear e c1;simp only [go_sem,seval];refine LoopK.walk (S:=Unit) g.length [1,2,4] [48,80] (fun i _=>[(6,.int .i64 i)]) (fun _ _=>[]) (fun i _=>(g.drop i).all plegB=g.all plegB) () rfl ?_ ?_ ?_
 ·simp only [go_sem,seval]<;>simp
 ·intro i _ hi hdi hwi hI;have hm:=map_at (c:=PosV.cells) g hi;have hli:(i:Int) < (g.length:Int):=by omega
  obtain ⟨x,hx⟩:=nmE (g[i]);have k1:=refKey_spec x.who x.inst;have k2:=refRight_spec x.qty;have k3:=refRight_spec x.cost;rw [drop_at hi,<- hx] at hI;rw [<- hx] at hm;simp only [List.all_cons,plegB] at hI;simp only [PosV.cells] at hm;clear c2 c3;simp only [go_sem,seval,lml,hdi,hm];(with_reducible and_intros)<;>first|exact .dq|omega|skip
  refine CallN.pure k1 ?_;cases q1:keyB x.who x.inst
  ·rw [q1,Bool.false_and,Bool.false_and] at hI;have hI':g.all plegB=false:=hI.symm;simp only [go_sem,seval,q1,hI']
   all_goals simp
  simp only [go_sem,seval,q1,lml,hm];(with_reducible and_intros)<;>first|exact .dq|omega|skip
  refine CallN.pure k2 ?_;cases q2:inR x.qty
  ·rw [q1,q2,Bool.false_and,Bool.and_false,Bool.false_and] at hI;have hI':g.all plegB=false:=hI.symm;simp only [go_sem,seval,q2,hI']
   all_goals simp
  simp only [go_sem,seval,q2,lml,hm];(with_reducible and_intros)<;>first|exact .dq|omega|skip
  refine CallN.pure k3 ?_;cases q3:inR x.cost
  ·rw [q1,q2,q3,Bool.and_false,Bool.and_false,Bool.false_and] at hI;have hI':g.all plegB=false:=hI.symm;simp only [go_sem,seval,q3,hI']
   all_goals simp
  rw [q1,q2,q3,Bool.and_self,Bool.and_self,Bool.true_and] at hI;simp only [go_sem,seval,q3,hwi];(with_reducible and_intros)<;>first|exact .dq|omega|skip
  refine RoundK.step () hi hI ?_;simp only [go_sem,seval]
 intro _ hdx hI;rw [List.drop_length] at hI;have hall:g.all plegB=true:=hI.symm
 have hgm:∀ p∈g,inR p.qty=true/\inR p.cost=true:=fun p hp=>by
  have:=List.all_eq_true.1 hall p hp;simp only [plegB,bae] at this;exact this.2
 rw [hall];simp only [go_sem,seval,lml,hdx];clear hI hdx;refine LoopK.walk (S:=Unit) 8 [1,2,4] [48,80] (fun i _=>[(7,.int .i64 ((i:Int)+1))]) (fun _ _=>[]) (fun i _=>∀ k < i,(sumL (pick (fun p:PosV=>p.inst==((k:Nat):Int)+1) PosV.qty g)==0)=true) () (by simp) ?_ ?_ ?_
 ·simp only [go_sem,seval]<;>simp
 ·intro c _ hc _ _ hI;obtain ⟨n,hn⟩:=nmE ((c:Int)+1);have hd:decide (n<=8)=true:=decide_eq_true (by omega);have hw:IntKind.wrap .i64 (n+1)=((c+1:Nat):Int)+1:=by rw [wr64 (by omega) (by omega)];omega
  have hA:=refAdd_spec (pick (fun p:PosV=>p.inst==n) PosV.qty g) (pick_all fun p hp=>i64_of (hgm p hp).1) (by have:=pick_len (fun p:PosV=>p.inst==n) PosV.qty g;omega);have h0:=add0 (pick (fun p:PosV=>p.inst==n) PosV.qty g)
  have hbad:(sumL (pick (fun p:PosV=>p.inst==n) PosV.qty g)==0)=false->flatB g=false:=fun h=>by
   rw [flatB,List.all_eq_false];exact ⟨c,List.mem_range.2 hc,by rw [<- hn,h];simp⟩
  rw [<- hn];clear c2 c3;simp only [go_sem,seval,hd,lml];refine LoopK.walk (S:=Unit) g.length [1,2,4,7] [48,80] (fun i _=>[(9,.int .i64 i),(8,.ref 1360)]) (fun i _=>[(1360,.own 1 (ints (pick (fun p:PosV=>p.inst==n) PosV.qty (g.take i))))]) (fun _ _=>True) () trivial ?_ ?_ ?_
  ·simp only [go_sem,seval]<;>simp [pick,ints]
  ·intro i _ hi hdi hwi _;have hm:=map_at (c:=PosV.cells) g hi;have hs:=pickI_step (fun p:PosV=>p.inst==n) PosV.qty hi;have hlen:=pick_len (fun p:PosV=>p.inst==n) PosV.qty (g.take i);have hlt:(g.take i).length=i:=by simp;omega
   have hli:(i:Int) < (g.length:Int):=by omega
   obtain ⟨L,hL⟩:=nmE (pick (fun p:PosV=>p.inst==n) PosV.qty (g.take i));obtain ⟨x,hx⟩:=nmE (g[i]);rw [<- hx,<- hL] at hs;rw [<- hx] at hm;rw [<- hL] at hlen |-;simp only [PosV.cells] at hm;simp only [go_sem,seval,lml,hdi,hm];(with_reducible and_intros)<;>first|exact .dq|omega|skip
   cases hb:x.inst==n
   ·rw [hb] at hs;simp only [go_sem,seval,hwi];refine RoundK.step () hi trivial ?_;simp only [go_sem,seval,hs]<;>simp
   ·rw [hb] at hs;simp only [go_sem,seval,hwi,ints_len,lml,hm];(with_reducible and_intros)<;>first|exact .dq|omega|skip
    refine RoundK.step () hi trivial ?_;simp only [go_sem,seval,hs]<;>simp
  ·intro _ hdx _;simp only [go_sem,seval,hdx,lml,List.take_length];refine CallN.gen [] [] true (by simp) ?_;simp only [go_sem,seval];refine CallG.intro hA ?_;obtain ⟨L,hL⟩:=nmE (pick (fun p:PosV=>p.inst==n) PosV.qty g);rw [<- hL] at h0 hbad |-;cases b1:inR (sumL L)
   ·have hbad:=hbad (by rw [<- h0,b1];rfl);simp only [go_sem,seval,b1,hbad]
    all_goals simp
   cases b2:addN L==0
   ·have hbad:=hbad (by rw [<- h0,b1,b2];rfl);simp only [go_sem,seval,b1,bne,b2,hbad]
    all_goals simp
   rw [b1,b2] at h0;simp only [go_sem,seval,b1,bne,b2,hw];(with_reducible and_intros)<;>first|exact .dq|omega|skip
   refine RoundK.step () hc ?_ ?_
   ·intro k hk;rcases Nat.lt_or_ge k c with h | h
    ·exact hI k h
    ·obtain rfl:k=c:=by omega
     rw [<- hn,<- hL];exact h0.symm
   ·simp only [go_sem,seval]
 intro _ _ hI;have hfl:flatB g=true:=List.all_eq_true.2 fun c hc=>hI c (List.mem_range.1 hc)
 rw [hfl];clear hI hfl hall;simp only [go_sem,seval];(with_reducible and_intros)<;>first|exact .dq|omega|skip
 refine CallN.gen [] [] false (by simp) ?_;simp only [go_sem,seval];refine CallG.intro c2 ?_;clear c2;simp only [go_sem,seval];(with_reducible and_intros)<;>first|exact .dq|omega|skip
 refine LoopK.walk (S:=Unit) 16 [1,2,4,12] [48,80,1584] (fun i _=>[(13,.int .i64 ((i:Int)+1))]) (fun i _=>[(208,.box [.int .i64 b.next,.ref 1584,.ref 3152]),(3152,.own 4 ((adW b g i).map PosV.cells))]) (fun i _=>∀ k < i,adOkN b g (((k:Nat):Int)+1)=true) () (by simp) ?_ ?_ ?_
 ·simp only [go_sem,seval]<;>simp [adW]
 ·intro i _ hi _ _ hI;obtain ⟨w,hw⟩:=nmE ((i:Int)+1);have hd:decide (w<=16)=true:=decide_eq_true (by omega);have hww:IntKind.wrap .i64 (w+1)=((i+1:Nat):Int)+1:=by rw [wr64 (by omega) (by omega)];omega
  have hnx:adW b g (i+1)=adW b g i++adN b g w 8:=by rw [hw];exact fr_step _ i
  have hwl:=adW_len b g i
  have hbad:adOkN b g w=false->adOkW b g=false:=fun h=>by
   rw [adOkW,List.all_eq_false];exact ⟨i,List.mem_range.2 hi,by rw [<- hw,h];simp⟩
  obtain ⟨W,hW⟩:=nmE (adW b g i);rw [<- hW] at hnx hwl |-;rw [<- hw];simp only [go_sem,seval,hd];refine LoopK.walk (S:=Unit) 8 [1,2,4,12,13] [48,80,1584] (fun j _=>[(14,.int .i64 ((j:Int)+1))]) (fun j _=>[(208,.box [.int .i64 b.next,.ref 1584,.ref 3152]),(3152,.own 4 ((W++adN b g w j).map PosV.cells))]) (fun j _=>∀ k < j,adOk b g w (((k:Nat):Int)+1)=true) () (by simp) ?_ ?_ ?_
  ·simp only [go_sem,seval]<;>simp [adN]
  ·intro j _ hj _ _ hJ;obtain ⟨n,hn⟩:=nmE ((j:Int)+1);have hd:decide (n<=8)=true:=decide_eq_true (by omega);have hwn:IntKind.wrap .i64 (n+1)=((j+1:Nat):Int)+1:=by rw [wr64 (by omega) (by omega)];omega
   have hnn:adN b g w (j+1)=adN b g w j++adP b g w n:=by rw [hn];exact fr_step _ j
   have hnl:=adN_len b g w j
   have hbad2:adOk b g w n=false->adOkW b g=false:=fun h=>hbad (by
    rw [adOkN,List.all_eq_false]
    exact ⟨j,List.mem_range.2 hj,by rw [<- hn,h];simp⟩)
   have hP:=c3 w n;have hpr:=hpr w n;obtain ⟨p,hp⟩:=nmE (posOf w n b.qs);rw [<- hp] at hP hpr;obtain ⟨V,hV⟩:=nmE (W++adN b g w j);have hVl:V.length<=200:=by rw [hV,List.length_append];omega
   have hnV:W++adN b g w (j+1)=V++adP b g w n:=by rw [hnn,hV,List.append_assoc]
   have hA:=refAdd_spec (p.qty :: pick (posIs w n) PosV.qty g) (fun x hx=>by
    rcases List.mem_cons.1 hx with rfl | hx
    ·exact hpr.1
    ·exact pick_all (fun q hq=>i64_of (hgm q hq).1) x hx) (by have:=pick_len (posIs w n) PosV.qty g;simp only [List.length_cons];omega)
   have hB:=refAdd_spec (p.cost :: pick (posIs w n) PosV.cost g) (fun x hx=>by
    rcases List.mem_cons.1 hx with rfl | hx
    ·exact hpr.2
    ·exact pick_all (fun q hq=>i64_of (hgm q hq).2) x hx) (by have:=pick_len (posIs w n) PosV.cost g;simp only [List.length_cons];omega)
   have eq:sumL (p.qty :: pick (posIs w n) PosV.qty g)=adQ b g w n:=by rw [hp];rfl
   have ec:sumL (p.cost :: pick (posIs w n) PosV.cost g)=adC b g w n:=by rw [hp];rfl
   rw [<- hV,<- hn];simp only [PosV.cells] at hP;clear c3 hV hp hW hnn hnx;simp only [go_sem,seval,hd];(with_reducible and_intros)<;>first|exact .dq|omega|skip
   refine CallN.pure hP ?_;simp only [go_sem,seval,lml];(with_reducible and_intros)<;>first|exact .dq|omega|skip
   refine LoopK.walk (S:=Unit) g.length [1,2,4,12,13,14] [48,80,208,1584,3152] (fun i _=>[(18,.int .i64 i),(16,.ref 2416),(17,.ref 2544)]) (fun i _=>[(2416,.own 1 (ints (p.qty :: pick (posIs w n) PosV.qty (g.take i)))),(2544,.own 1 (ints (p.cost :: pick (posIs w n) PosV.cost (g.take i))))]) (fun _ _=>True) () trivial ?_ ?_ ?_
   ·simp only [go_sem,seval]<;>simp [pick,ints]
   ·intro i _ hi hdi hwi _;have hm:=map_at (c:=PosV.cells) g hi;have hs1:=pickI_step (posIs w n) PosV.qty hi;have hs2:=pickI_step (posIs w n) PosV.cost hi;have hl1:=pick_len (posIs w n) PosV.qty (g.take i);have hl2:=pick_len (posIs w n) PosV.cost (g.take i);have hlt:(g.take i).length=i:=by simp;omega
    have hli:(i:Int) < (g.length:Int):=by omega
    have hs1:ints (p.qty :: pick (posIs w n) PosV.qty (g.take (i+1)))=ints (p.qty :: pick (posIs w n) PosV.qty (g.take i))++(if posIs w n g[i] then [[.int .i64 g[i].qty]] else []):=congrArg (fun z:List (List D)=>([D.int .i64 p.qty]:List D) :: z) hs1;have hs2:ints (p.cost :: pick (posIs w n) PosV.cost (g.take (i+1)))=ints (p.cost :: pick (posIs w n) PosV.cost (g.take i))++(if posIs w n g[i] then [[.int .i64 g[i].cost]] else []):=congrArg (fun z:List (List D)=>([D.int .i64 p.cost]:List D) :: z) hs2;have hl1:(p.qty :: pick (posIs w n) PosV.qty (g.take i)).length<=i+1:=by simp only [List.length_cons];omega
    have hl2:(p.cost :: pick (posIs w n) PosV.cost (g.take i)).length<=i+1:=by simp only [List.length_cons];omega
    obtain ⟨L,hL⟩:=nmE (p.qty :: pick (posIs w n) PosV.qty (g.take i));obtain ⟨M,hM⟩:=nmE (p.cost :: pick (posIs w n) PosV.cost (g.take i));obtain ⟨x,hx⟩:=nmE (g[i]);rw [<- hx,<- hL] at hs1;rw [<- hx,<- hM] at hs2;rw [<- hx] at hm;rw [<- hL] at hl1;rw [<- hM] at hl2;rw [<- hL,<- hM];simp only [posIs] at hs1 hs2;simp only [PosV.cells] at hm;clear hL hM;cases q1:x.who==w
    ·simp only [q1,Bool.false_and,bfe,if_false,List.append_nil] at hs1 hs2;simp only [go_sem,seval,lml,hdi,hm,q1,hwi];(with_reducible and_intros)<;>first|exact .dq|omega|skip
     refine RoundK.step () hi trivial ?_;simp only [go_sem,seval,hs1,hs2]
    cases q2:x.inst==n
    ·simp only [q1,q2,Bool.and_false,bfe,if_false,List.append_nil] at hs1 hs2;simp only [go_sem,seval,lml,hdi,hm,q1,q2,hwi];(with_reducible and_intros)<;>first|exact .dq|omega|skip
     refine RoundK.step () hi trivial ?_;simp only [go_sem,seval,hs1,hs2]
    simp only [q1,q2,Bool.and_self,if_true] at hs1 hs2;simp only [go_sem,seval,lml,hdi,hm,q1,q2,hwi,ints_len];(with_reducible and_intros)<;>first|exact .dq|omega|skip
    refine RoundK.step () hi trivial ?_;simp only [go_sem,seval,hs1,hs2]
   ·intro _ hdx _;simp only [go_sem,seval,hdx,lml,List.take_length];(with_reducible and_intros)<;>first|exact .dq|omega|skip
    refine CallN.gen [] [] true (by simp) ?_;simp only [go_sem,seval];refine CallG.intro hA ?_;simp only [go_sem,seval];(with_reducible and_intros)<;>first|exact .dq|omega|skip
    refine CallN.gen [] [] true (by simp) ?_;simp only [go_sem,seval];refine CallG.intro hB ?_;simp only [addN,eq,ec];clear hA hB;have hW:=within11_spec (adQ b g w n) (-1099511627776) 1099511627776;simp only [adOk] at hbad2;simp only [adP] at hnV;obtain ⟨X,hX⟩:=nmE (adQ b g w n);obtain ⟨Y,hY⟩:=nmE (adC b g w n);have hokX:(inR X&&(inR Y&&within X (-1099511627776) 1099511627776))=adOk b g w n:=by rw [hX,hY];rfl
    rw [<- hX,<- hY] at hbad2 hnV;rw [<- hX] at hW;rw [<- hX,<- hY];cases b1:inR X
    ·have hbad2:=hbad2 (by rw [b1];rfl);simp only [go_sem,seval,b1,hbad2]
     all_goals simp
    cases b2:inR Y
    ·have hbad2:=hbad2 (by rw [b1,b2];rfl);simp only [go_sem,seval,b1,b2,hbad2]
     all_goals simp
    simp only [go_sem,seval,b1,b2];(with_reducible and_intros)<;>first|exact .dq|omega|skip
    refine CallN.pure hW ?_;cases b3:within X (-1099511627776) 1099511627776
    ·have hbad2:=hbad2 (by rw [b1,b2,b3];rfl);simp only [go_sem,seval,b3,hbad2]
     all_goals simp
    have hJ2:∀ k < j+1,adOk b g w (((k:Nat):Int)+1)=true:=fun k hk=>by
     rcases Nat.lt_or_ge k j with h | h
     ·exact hJ k h
     ·obtain rfl:k=j:=by omega
      rw [<- hn,<- hokX,b1,b2,b3];rfl
    cases q1:X==0
    ·simp only [q1,Bool.false_and,bfe,if_false] at hnV;simp only [go_sem,seval,b3,bne,q1,hwn,lml];(with_reducible and_intros)<;>first|exact .dq|omega|skip
     refine RoundK.step () hj hJ2 ?_;simp only [go_sem,seval,hnV]<;>simp
    cases q2:Y==0
    ·simp only [q1,q2,Bool.and_false,bfe,if_false] at hnV;simp only [go_sem,seval,b3,bne,q1,q2,hwn,lml];(with_reducible and_intros)<;>first|exact .dq|omega|skip
     refine RoundK.step () hj hJ2 ?_;simp only [go_sem,seval,hnV]<;>simp
    simp only [q1,q2,Bool.and_self,if_true,List.append_nil] at hnV;simp only [go_sem,seval,b3,bne,q1,q2,hwn];(with_reducible and_intros)<;>first|exact .dq|omega|skip
    refine RoundK.step () hj hJ2 ?_;simp only [go_sem,seval,hnV]
  ·intro _ _ hJ;have hok:adOkN b g w=true:=List.all_eq_true.2 fun k hk=>hJ k (List.mem_range.1 hk)
   simp only [go_sem,seval,hww];(with_reducible and_intros)<;>first|exact .dq|omega|skip
   refine RoundK.step () hi ?_ ?_
   ·intro k hk;rcases Nat.lt_or_ge k i with h | h
    ·exact hI k h
    ·obtain rfl:k=i:=by omega
     rw [<- hw];exact hok
   ·simp only [go_sem,seval,hnx]
 ·intro _ _ hI;have hok:adOkW b g=true:=List.all_eq_true.2 fun k hk=>hI k (List.mem_range.1 hk)
  simp only [go_sem,seval,hok]
theorem book_nums {b:BookV} (h:b.okB=true):0<=b.next/\b.next<=1099511627776/\b.ts.length<=128:=by
 simp only [BookV.okB,bae,Bool.not_eq_true',decide_eq_false_iff_not] at h;omega
theorem addE_ok {b:BookV} {g:List PosV} (h:addE b g=0):b.okB=true/\addB b g=⟨b.next,b.ts,adW b g 16⟩:=by
 refine ⟨?_,by simp [addB,h]⟩;unfold addE at h;split at h
 ·assumption
 ·cases h
theorem addB_no {b:BookV} {g:List PosV} (h:addE b g≠0):addB b g=⟨0,[],[]⟩:=by simp [addB,h]
def enterE (b:BookV) (t:TradeV):Int:=if b.okB then (if t.okB then (if 128<=b.ts.length then 9 else if b.next=1099511627776 then 1 else addE b (legsL t false)) else 3) else 14
def enterB (b:BookV) (t:TradeV):BookV:=if enterE b t=0 then ⟨b.next+1,b.ts++[{ t with no:=b.next+1,off:=false }],adW b (legsL t false) 16⟩ else ⟨0,[],[]⟩
def enterN (b:BookV) (t:TradeV):Int:=if enterE b t=0 then b.next+1 else 0
theorem legsL_len (t:TradeV) (k:Bool):(legsL t k).length<=2:=by unfold legsL;split<;>simp
theorem refEnter_own (b:BookV) (t:TradeV) (hb:b.small) (hr:∀ p∈b.qs,p.rng):Abs.Spec Tryz.prog 231 [] [.agg b.cells,.agg t.cells] [.own 7 ((enterB b t).ts.map TradeV.cells),.own 4 ((enterB b t).qs.map PosV.cells)] (.tup [.agg [.int .i64 (enterB b t).next,.ref 0,.ref 1],.int .i64 (enterN b t),.int .i64 (enterE b t)]):=by
 have c1:=refBook_spec b hb hr;have c2:=refNumbers_spec t;have c3:=refLegs11_spec t false;have c4:=refAdd11_own b (legsL t false) hb hr (by have:=legsL_len t false;omega);have hlt:=hb.1;simp only [BookV.cells,TradeV.cells] at c1 c2 c3 c4 |-;refine sgo 54 2 [.cell 4 33,.tmp 5,.tmp 6] mixed Tryz.func231 ?_;simp only [go_sem,seval];(with_reducible and_intros)<;>first|exact .dq|omega|skip
 refine CallN.pure c1 ?_;cases b1:b.okB
 ·have e:enterE b t=14:=by simp [enterE,b1]
  simp only [go_sem,seval,enterB,enterN,e]
  all_goals simp
 obtain ⟨n1,n2,n3⟩:=book_nums b1;simp only [go_sem,seval];(with_reducible and_intros)<;>first|exact .dq|omega|skip
 refine CallN.pure c2 ?_;cases b2:t.okB
 ·have e:enterE b t=3:=by simp [enterE,b1,b2]
  simp only [go_sem,seval,enterB,enterN,e]
  all_goals simp
 by_cases b3:128<=b.ts.length
 ·have e:enterE b t=9:=by simp [enterE,b1,b2,b3]
  have d:decide ((128:Int)<=(b.ts.length:Int))=true:=decide_eq_true (by omega);simp only [go_sem,seval,lml,d,enterB,enterN,e]
  all_goals simp
 have d3:decide ((128:Int)<=(b.ts.length:Int))=false:=decide_eq_false (by omega)
 by_cases b4:b.next=1099511627776
 ·have e:enterE b t=1:=by simp only [enterE,b1,b2,if_neg b3,if_pos b4];rfl
  have d:(b.next==1099511627776)=true:=by simpa using b4
  simp only [go_sem,seval,lml,d3,d,enterB,enterN,e]
  all_goals simp
 have d4:(b.next==1099511627776)=false:=by simpa using b4
 have e:enterE b t=addE b (legsL t false):=by simp only [enterE,b1,b2,if_neg b3,if_neg b4];rfl
 have w:IntKind.wrap .i64 (b.next+1)=b.next+1:=wr64 (by omega) (by omega)
 simp only [enterB,enterN];rw [e];clear e c1 c2;simp only [go_sem,seval,lml,d3,d4];(with_reducible and_intros)<;>first|exact .dq|omega|skip
 refine CallN.pure c3 ?_;simp only [go_sem,seval];(with_reducible and_intros)<;>first|exact .dq|omega|skip
 refine CallN.gen [] [] false (by simp) ?_;simp only [go_sem,seval];refine CallG.intro c4 ?_
 by_cases b5:addE b (legsL t false)=0
 ·have hB:=(addE_ok b5).2;rw [hB,b5];simp only [go_sem,seval,w,lml];(with_reducible and_intros)<;>first|exact .dq|omega|skip
  all_goals simp
 ·have hB:=addB_no b5;have d5:(addE b (legsL t false)==0)=false:=by simpa using b5
  rw [hB,if_neg b5,if_neg b5];simp only [go_sem,seval,bne,d5,lml];(with_reducible and_intros)<;>first|exact .dq|omega|skip
  all_goals simp
theorem refEnter_spec (b:BookV) (t:TradeV) (hb:b.small) (hr:∀ p∈b.qs,p.rng):Abs.Spec Tryz.prog 231 [] [.agg b.cells,.agg t.cells] [] (.tup [.agg (enterB b t).cells,.int .i64 (enterN b t),.int .i64 (enterE b t)]):=by
 refine Spec.frozen (refEnter_own b t hb hr) [0,1] rfl ?_;intro r;rcases r with _ | _ | r<;>rfl
theorem findL_ex {n:Int}:∀ {ts:List TradeV},¬ findL n ts < 0->∃ (i:Nat) (h:i < ts.length),findL n ts=i/\onB n ts[i]=true
 | [],h=>by simp [findL] at h
 | t :: r,h=>by
  simp only [findL] at h |-;split at h
  ·rename_i h1;exact ⟨0,by simp,by rw [if_pos h1];rfl,h1⟩
  ·rename_i h1;split at h
   ·omega
   ·rename_i h2;obtain ⟨i,hi,e,ho⟩:=findL_ex (ts:=r) h2;refine ⟨i+1,by simp;omega,?_,by simpa using ho⟩;rw [if_neg h1,if_neg h2,e];rfl
def tradeAt (n:Int) (ts:List TradeV):TradeV:=ts.getD (findL n ts).toNat ⟨0,0,0,0,0,0,false⟩
def offT (n:Int) (ts:List TradeV):List TradeV:=ts.set (findL n ts).toNat { tradeAt n ts with off:=true }
def cancelE (b:BookV) (n:Int):Int:=if b.okB then (if findL n b.ts < 0 then 10 else addE b (legsL (tradeAt n b.ts) true)) else 14
def cancelB (b:BookV) (n:Int):BookV:=if cancelE b n=0 then ⟨b.next,offT n b.ts,adW b (legsL (tradeAt n b.ts) true) 16⟩ else ⟨0,[],[]⟩
theorem refCancel_own (b:BookV) (n:Int) (hb:b.small) (hr:∀ p∈b.qs,p.rng):Abs.Spec Tryz.prog 234 [] [.agg b.cells,.int .i64 n] [.own 7 ((cancelB b n).ts.map TradeV.cells),.own 4 ((cancelB b n).qs.map PosV.cells)] (.tup [.agg [.int .i64 (cancelB b n).next,.ref 0,.ref 1],.int .i64 (cancelE b n)]):=by
 have c1:=refBook_spec b hb hr;have c2:=refFind_spec b n hb;have c3:=refLegs11_spec (tradeAt n b.ts) true;have c4:=refAdd11_own b (legsL (tradeAt n b.ts) true) hb hr (by have:=legsL_len (tradeAt n b.ts) true;omega);have hlt:=hb.1;simp only [BookV.cells] at c1 c2 c3 c4 |-;refine sgo 40 2 [.cell 4 33,.tmp 5] mixed Tryz.func234 ?_;simp only [go_sem,seval];(with_reducible and_intros)<;>first|exact .dq|omega|skip
 refine CallN.pure c1 ?_;cases b1:b.okB
 ·have e:cancelE b n=14:=by simp [cancelE,b1]
  simp only [go_sem,seval,cancelB,e]
  all_goals simp
 simp only [go_sem,seval];(with_reducible and_intros)<;>first|exact .dq|omega|skip
 refine CallN.pure c2 ?_
 by_cases b2:findL n b.ts < 0
 ·have e:cancelE b n=10:=by simp [cancelE,b1,b2]
  have d:decide (findL n b.ts < 0)=true:=decide_eq_true b2;simp only [go_sem,seval,d,cancelB,e]
  all_goals simp
 have d2:decide (findL n b.ts < 0)=false:=decide_eq_false b2;have e:cancelE b n=addE b (legsL (tradeAt n b.ts) true):=by simp only [cancelE,b1,if_neg b2];rfl
 obtain ⟨i,hi,hfi,hon⟩:=findL_ex b2;have hm:=map_at (c:=TradeV.cells) b.ts hi;have hta:tradeAt n b.ts=b.ts[i]:=by simp [tradeAt,hfi,hi]
 have hli:(i:Int) < (b.ts.length:Int):=by omega
 have hoff:offT n b.ts=b.ts.set i { b.ts[i] with off:=true }:=by simp [offT,hta,hfi]
 simp only [cancelB];rw [e];rw [hta] at c3 c4 |-;rw [hoff];clear e c1 c2 hta hoff;obtain ⟨t,ht⟩:=nmE (b.ts[i]);rw [<- ht] at hm c3 c4 |-;simp only [TradeV.cells] at hm c3;simp only [go_sem,seval,d2,hfi,hm,lml];rw [hfi] at d2;simp only [go_sem,seval,d2,hfi,hm,lml];(with_reducible and_intros)<;>first|exact .dq|omega|skip
 refine CallN.pure c3 ?_;simp only [go_sem,seval];(with_reducible and_intros)<;>first|exact .dq|omega|skip
 refine CallN.gen [] [] false (by simp) ?_;simp only [go_sem,seval];refine CallG.intro c4 ?_
 by_cases b5:addE b (legsL t true)=0
 ·have hB:=(addE_ok b5).2;rw [hB,b5];simp only [go_sem,seval,hm,lml];(with_reducible and_intros)<;>first|exact .dq|omega|skip
  all_goals simp [List.map_set]
 ·have hB:=addB_no b5;have d5:(addE b (legsL t true)==0)=false:=by simpa using b5
  rw [hB,if_neg b5];simp only [go_sem,seval,bne,d5,lml];(with_reducible and_intros)<;>first|exact .dq|omega|skip
  all_goals simp
theorem refCancel_spec (b:BookV) (n:Int) (hb:b.small) (hr:∀ p∈b.qs,p.rng):Abs.Spec Tryz.prog 234 [] [.agg b.cells,.int .i64 n] [] (.tup [.agg (cancelB b n).cells,.int .i64 (cancelE b n)]):=by
 refine Spec.frozen (refCancel_own b n hb hr) [0,1] rfl ?_;intro r;rcases r with _ | _ | r<;>rfl
theorem cancelB_small (b:BookV) (n:Int) (hb:b.small):(cancelB b n).small:=by
 unfold cancelB;split
 ·refine ⟨by simpa [offT] using hb.1,?_⟩;have:=adW_len b (legsL (tradeAt n b.ts) true) 16
  show (adW b (legsL (tradeAt n b.ts) true) 16).length < _
  omega
 ·exact ⟨by simp,by simp⟩
theorem adP_rng {b:BookV} {g:List PosV} {w n:Int} (hw:I64 w) (hn:I64 n) (h:adOk b g w n=true):∀ p∈adP b g w n,p.rng:=by
 intro p hp;unfold adP at hp;split at hp
 ·cases hp
 ·obtain rfl:=List.mem_singleton.1 hp;simp only [adOk,bae] at h;exact ⟨hw,hn,i64_of h.1,i64_of h.2.1⟩
theorem adW_mem {b:BookV} {g:List PosV} {p:PosV}:∀ {i:Nat},p∈adW b g i->∃ k m:Nat,k < i/\m < 8/\p∈adP b g ((k:Int)+1) ((m:Int)+1):=by
 intro i hp;obtain ⟨k,hk,hp⟩:=List.mem_flatMap.1 hp;obtain ⟨m,hm,hp⟩:=List.mem_flatMap.1 hp;exact ⟨k,m,List.mem_range.1 hk,List.mem_range.1 hm,hp⟩
theorem adOkW_at {b:BookV} {g:List PosV} (h:adOkW b g=true) {k m:Nat} (hk:k < 16) (hm:m < 8):adOk b g ((k:Int)+1) ((m:Int)+1)=true:=by
 have:=List.all_eq_true.1 h k (List.mem_range.2 hk);exact List.all_eq_true.1 this m (List.mem_range.2 hm)
theorem addE_adOk {b:BookV} {g:List PosV} (h:addE b g=0):g.all plegB=true/\flatB g=true/\adOkW b g=true:=by
 unfold addE at h;split at h
 ·split at h
  ·split at h
   ·split at h
    ·exact ⟨by assumption,by assumption,by assumption⟩
    ·cases h
   ·cases h
  ·cases h
 ·cases h
theorem adW_rng {b:BookV} {g:List PosV} (h:addE b g=0):∀ p∈adW b g 16,p.rng:=by
 intro p hp;obtain ⟨k,m,hk,hm,hp⟩:=adW_mem hp;exact adP_rng ⟨by omega,by omega⟩ ⟨by omega,by omega⟩ (adOkW_at (addE_adOk h).2.2 hk hm) p hp
theorem cancelE_ok {b:BookV} {n:Int} (h:cancelE b n=0):b.okB=true /\ ¬ findL n b.ts < 0/\addE b (legsL (tradeAt n b.ts) true)=0:=by
 unfold cancelE at h;split at h
 ·split at h
  ·cases h
  ·exact ⟨by assumption,by assumption,h⟩
 ·cases h
theorem cancelB_rng {b:BookV} {n:Int}:∀ p∈(cancelB b n).qs,p.rng:=by
 unfold cancelB;split
 ·rename_i h;exact adW_rng (cancelE_ok h).2.2
 ·intro p hp;cases hp
def correctE (b:BookV) (n q p:Int):Int:=if cancelE b n=0 then enterE (cancelB b n) { tradeAt n b.ts with qty:=q,price:=p } else cancelE b n
def correctB (b:BookV) (n q p:Int):BookV:=if cancelE b n=0 then enterB (cancelB b n) { tradeAt n b.ts with qty:=q,price:=p } else ⟨0,[],[]⟩
def correctN (b:BookV) (n q p:Int):Int:=if cancelE b n=0 then enterN (cancelB b n) { tradeAt n b.ts with qty:=q,price:=p } else 0
theorem refCorrect_spec (b:BookV) (n q p:Int) (hb:b.small) (hr:∀ p∈b.qs,p.rng):Abs.Spec Tryz.prog 235 [] [.agg b.cells,.int .i64 n,.int .i64 q,.int .i64 p] [] (.tup [.agg (correctB b n q p).cells,.int .i64 (correctN b n q p),.int .i64 (correctE b n q p)]):=by
 have c1:=refCancel_spec b n hb hr;have c2:=refFind_spec b n hb;have c3:=refEnter_spec (cancelB b n) { tradeAt n b.ts with qty:=q,price:=p } (cancelB_small b n hb) cancelB_rng;have hlt:=hb.1;simp only [correctE,correctB,correctN];obtain ⟨B,hB⟩:=nmE (cancelB b n);obtain ⟨T,hT⟩:=nmE (tradeAt n b.ts);rw [<- hB,<- hT] at c3;rw [<- hB] at c1;rw [<- hB,<- hT];simp only [BookV.cells,TradeV.cells] at c1 c2 c3 |-;refine sgo 41 4 [.cell 8 33,.tmp 9,.tmp 10] mixed Tryz.func235 ?_;simp only [go_sem,seval];(with_reducible and_intros)<;>first|exact .dq|omega|skip
 refine CallN.pure c1 ?_
 by_cases b1:cancelE b n=0
 case neg =>
  have d:(cancelE b n==0)=false:=by simpa using b1
  rw [if_neg b1,if_neg b1,if_neg b1];simp only [go_sem,seval,bne,d]
  all_goals simp
 obtain ⟨i,hi,hfi,hon⟩:=findL_ex (cancelE_ok b1).2.1;have hm:=map_at (c:=TradeV.cells) b.ts hi;have hta:T=b.ts[i]:=by rw [hT];simp [tradeAt,hfi,hi]
 have hli:(i:Int) < (b.ts.length:Int):=by omega
 rw [<- hta] at hm;rw [hfi] at c2;simp only [TradeV.cells] at hm;rw [b1];simp only [go_sem,seval];(with_reducible and_intros)<;>first|exact .dq|omega|skip
 refine CallN.pure c2 ?_;simp only [go_sem,seval,hm,lml];(with_reducible and_intros)<;>first|exact .dq|omega|skip
 refine CallN.pure c3 ?_;simp only [go_sem,seval]
def priceOf (x:InstV):Int:=if x.set==0 then x.price else x.set
def hasPrice (x:InstV):Bool:=!(x.set==0&&x.price==0)
def runE1 (r:RollV) (p:PosV):Int:=
 if instIs r p.inst then (if !hasPrice (instOf r p.inst)&&!(p.qty==0) then 20 else if inR (worthS p (instOf r p.inst).mult (priceOf (instOf r p.inst)))&&inR (p.qty*priceOf (instOf r p.inst)) then 0 else 1) else 10
def runEL (r:RollV):List PosV->Int
 | []=>0
 | p :: t=>if runE1 r p=0 then runEL r t else runE1 r p
def runD1 (r:RollV) (p:PosV):DueV:=⟨p.who,(instOf r p.inst).cur,worthS p (instOf r p.inst).mult (priceOf (instOf r p.inst))⟩
def runQ1 (r:RollV) (p:PosV):List PosV:=if p.qty==0&&p.qty*priceOf (instOf r p.inst)==0 then [] else [⟨p.who,p.inst,p.qty,p.qty*priceOf (instOf r p.inst)⟩]
def runE (r:RollV) (b:BookV):Int:=if r.okB&&b.okB then runEL r b.qs else 14
def runB (r:RollV) (b:BookV):BookV:=if runE r b=0 then ⟨b.next,b.ts,b.qs.flatMap (runQ1 r)⟩ else ⟨0,[],[]⟩
def runD (r:RollV) (b:BookV):List DueV:=if runE r b=0 then b.qs.map (runD1 r) else []
theorem twinBook_frozen (b:BookV) (h:b.small):Abs.Spec Tryz.prog 41 [] [.agg b.cells] [] (.agg b.cells):=by
 refine Spec.frozen (twinBook_spec b h) [0,1] rfl ?_;intro r;rcases r with _ | _ | r<;>rfl
theorem inst_prices {x:InstV} (h:x.ok=true):0<=priceOf x/\priceOf x<=1073741824:=by
 simp only [InstV.ok,within,bae,decide_eq_true_eq] at h;unfold priceOf;split<;>omega
theorem book_pos {b:BookV} (h:b.okB=true):∀ p∈b.qs,p.okB=true:=by
 intro p hp;simp only [BookV.okB,bae] at h;obtain ⟨i,hi,rfl⟩:=List.mem_iff_getElem.1 hp;exact chB_ok h.1 hi
theorem pos_nums {p:PosV} (h:p.okB=true):-1099511627776<=p.qty/\p.qty<=1099511627776/\inR p.cost=true:=by
 simp only [PosV.okB,within,bae,decide_eq_true_eq] at h;exact ⟨h.2.1.1,h.2.1.2,h.2.2.1⟩
theorem refRun_own (r:RollV) (b:BookV) (h:r.tiny) (hb:b.small) (hr:∀ p∈b.qs,p.rng):Abs.Spec Tryz.prog 236 [] [.agg r.cells,.agg b.cells] [.own 4 ((runB r b).qs.map PosV.cells),.own 3 ((runD r b).map DueV.cells)] (.tup [.agg [.int .i64 (runB r b).next,.sl 7 ((runB r b).ts.map TradeV.cells),.ref 0],.ref 1,.int .i64 (runE r b)]):=by
 have c1:=refRoll_spec r h.small;have c2:=refBook_spec b hb hr;have c3:=fun n=>refFindInst_spec r n h.small
 have c4:=twinBook_frozen b hb;have hql:=hb.2;simp only [RollV.cells,BookV.cells] at c1 c2 c3 c4 |-;refine sgo 117 2 [.cell 4 33,.tmp 5,.tmp 6] mixed Tryz.func236 ?_;simp only [go_sem,seval];(with_reducible and_intros)<;>first|exact .dq|omega|skip
 refine CallN.pure c1 ?_;cases b1:r.okB
 ·have e:runE r b=14:=by simp [runE,b1]
  simp only [go_sem,seval,runB,runD,e]
  all_goals simp
 simp only [go_sem,seval];(with_reducible and_intros)<;>first|exact .dq|omega|skip
 refine CallN.pure c2 ?_;cases b2:b.okB
 ·have e:runE r b=14:=by simp [runE,b1,b2]
  simp only [go_sem,seval,runB,runD,e]
  all_goals simp
 have e:runE r b=runEL r b.qs:=by simp [runE,b1,b2]
 have hpos:=book_pos b2;simp only [runB,runD];rw [e];clear e c1 c2;simp only [go_sem,seval];(with_reducible and_intros)<;>first|exact .dq|omega|skip
 refine CallN.pure c4 ?_;clear c4;simp only [go_sem,seval];(with_reducible and_intros)<;>first|exact .dq|omega|skip
 refine LoopK.walk (S:=Unit) b.qs.length [2,3,4,7] [48,64,80] (fun i _=>[(9,.int .i64 i),(8,.ref 1552)]) (fun i _=>[(128,.box [.int .i64 b.next,.sl 7 (b.ts.map TradeV.cells),.ref 1824]),(1552,.own 3 (((b.qs.take i).map (runD1 r)).map DueV.cells)),(1824,.own 4 (((b.qs.take i).flatMap (runQ1 r)).map PosV.cells))]) (fun i _=>runEL r (b.qs.drop i)=runEL r b.qs) () rfl ?_ ?_ ?_
 ·simp only [go_sem,seval]<;>simp
 ·intro i _ hi hdi hwi hI;have hm:=map_at (c:=PosV.cells) b.qs hi;have hli:(i:Int) < (b.qs.length:Int):=by omega
  have hlt:(b.qs.take i).length=i:=by simp;omega
  have hq:=fm_step (runQ1 r) hi
  have hql:((b.qs.take i).flatMap (runQ1 r)).length<=i:=by
   have:=fm_len (f:=runQ1 r) (m:=1) (fun p=>by unfold runQ1;split<;>simp) (b.qs.take i);omega
  have hD:(b.qs.take (i+1)).map (runD1 r)=(b.qs.take i).map (runD1 r)++[runD1 r b.qs[i]]:=by rw [List.take_succ_eq_append_getElem hi,List.map_append];rfl
  obtain ⟨n1,n2,n3⟩:=pos_nums (hpos b.qs[i] (List.getElem_mem hi));obtain ⟨p,hp⟩:=nmE (b.qs[i]);obtain ⟨Q,hQ⟩:=nmE ((b.qs.take i).flatMap (runQ1 r));obtain ⟨L,hL⟩:=nmE ((b.qs.take i).map (runD1 r));have hLl:L.length=i:=by rw [hL];simp;omega
  have c3k:=c3 p.inst;have hxok:=fun hh=>instOf_ok (r:=r) (n:=p.inst) b1 hh
  obtain ⟨x,hx⟩:=nmE (instOf r p.inst);rw [drop_at hi,<- hp] at hI;simp only [runEL,runE1,<- hx] at hI;rw [<- hp,<- hQ] at hq;rw [<- hp,<- hL] at hD;rw [<- hQ] at hql;simp only [runQ1,<- hx] at hq;simp only [runD1,<- hx] at hD;rw [<- hp] at hm n1 n2 n3;rw [<- hx] at c3k hxok;rw [<- hQ,<- hL];simp only [PosV.cells] at hm;simp only [InstV.cells] at c3k;clear c3 hQ hL hp hpos;simp only [go_sem,seval,lml,hdi,hm];(with_reducible and_intros)<;>first|exact .dq|omega|skip
  refine CallN.pure c3k ?_;cases q1:instIs r p.inst
  ·simp only [q1,bfe,if_false] at hI;have hE:runEL r b.qs=10:=hI.symm;simp only [go_sem,seval,q1,hE]
   all_goals simp
  simp only [q1,if_true] at hI;have hxok:=hxok q1;have hpr:=inst_prices hxok;have hmu:=(inst_range hxok).1;have c5:=refPrice_spec x;have c6:=refWorth_spec p x.mult (priceOf x) ⟨by omega,by omega⟩ n3 (by omega) hpr;have c7:=refMul_spec p.qty (priceOf x) ⟨by omega,by omega⟩ ⟨by omega,by omega⟩;have ep:(if x.set==0 then x.price else x.set)=priceOf x:=rfl;have eh:(!(x.set==0&&x.price==0))=hasPrice x:=rfl;rw [ep,eh] at c5;obtain ⟨W,hW⟩:=nmE (worthS p x.mult (priceOf x));obtain ⟨C,hC⟩:=nmE (p.qty*priceOf x);rw [<- hW] at c6;rw [<- hC] at c7;rw [<- hW,<- hC] at hI;rw [<- hC] at hq;rw [<- hW] at hD;simp only [InstV.cells] at c5;simp only [PosV.cells] at c6;clear ep eh hW hC;simp only [go_sem,seval,q1];(with_reducible and_intros)<;>first|exact .dq|omega|skip
  refine CallN.pure c5 ?_;cases q2:hasPrice x
  case false =>
   cases q3:p.qty==0
   ·simp only [q2,q3,Bool.not_false,Bool.and_self,if_true] at hI;have hE:runEL r b.qs=20:=hI.symm;simp only [go_sem,seval,q2,bne,q3,hE]
    all_goals simp
   simp only [q2,q3,Bool.not_true,Bool.and_false,bfe,if_false] at hI;simp only [go_sem,seval,q2,bne,q3];(with_reducible and_intros)<;>first|exact .dq|omega|skip
   refine CallN.pure c6 ?_;simp only [go_sem,seval];(with_reducible and_intros)<;>first|exact .dq|omega|skip
   refine CallN.pure c7 ?_;cases q4:inR W
   ·simp only [q4,Bool.false_and,bfe,if_false] at hI;have hE:runEL r b.qs=1:=hI.symm;simp only [go_sem,seval,q4,hE]
    all_goals simp
   cases q5:inR C
   ·simp only [q4,q5,Bool.and_false,bfe,if_false] at hI;have hE:runEL r b.qs=1:=hI.symm;simp only [go_sem,seval,q4,q5,hE]
    all_goals simp
   simp only [q4,q5,Bool.and_self,if_true] at hI;cases q6:C==0
   ·simp only [q3,q6,Bool.and_false,bfe,if_false] at hq;simp only [go_sem,seval,q4,q5,bne,q3,q6,hwi,lml];(with_reducible and_intros)<;>first|exact .dq|omega|skip
    refine RoundK.step () hi hI ?_;simp only [go_sem,seval,hq,hD]<;>simp
   ·simp only [q3,q6,Bool.and_self,if_true,List.append_nil] at hq;simp only [go_sem,seval,q4,q5,bne,q3,q6,hwi,lml];(with_reducible and_intros)<;>first|exact .dq|omega|skip
    refine RoundK.step () hi hI ?_;simp only [go_sem,seval,hq,hD]<;>simp
  simp only [q2,Bool.not_true,Bool.false_and,bfe,if_false] at hI;simp only [go_sem,seval,q2];(with_reducible and_intros)<;>first|exact .dq|omega|skip
  refine CallN.pure c6 ?_;simp only [go_sem,seval];(with_reducible and_intros)<;>first|exact .dq|omega|skip
  refine CallN.pure c7 ?_;cases q4:inR W
  ·simp only [q4,Bool.false_and,bfe,if_false] at hI;have hE:runEL r b.qs=1:=hI.symm;simp only [go_sem,seval,q4,hE]
   all_goals simp
  cases q5:inR C
  ·simp only [q4,q5,Bool.and_false,bfe,if_false] at hI;have hE:runEL r b.qs=1:=hI.symm;simp only [go_sem,seval,q4,q5,hE]
   all_goals simp
  simp only [q4,q5,Bool.and_self,if_true] at hI
  cases q3:p.qty==0<;>cases q6:C==0<;>(
   simp only [q3,q6,Bool.and_self,Bool.and_false,Bool.false_and,bfe,if_false,if_true,List.append_nil] at hq;simp only [go_sem,seval,q4,q5,bne,q3,q6,hwi,lml];(with_reducible and_intros)<;>first|exact .dq|omega|skip
   try refine RoundK.step () hi hI ?_
   try simp only [go_sem,seval,hq,hD])
  all_goals simp
 ·intro _ hdx hI;rw [List.drop_length] at hI;have hE:runEL r b.qs=0:=hI.symm;simp only [go_sem,seval,lml,hdx,hE,List.take_length]
  all_goals simp
theorem refRun_spec (r:RollV) (b:BookV) (h:r.tiny) (hb:b.small) (hr:∀ p∈b.qs,p.rng):Abs.Spec Tryz.prog 236 [] [.agg r.cells,.agg b.cells] [] (.tup [.agg (runB r b).cells,.sl 3 ((runD r b).map DueV.cells),.int .i64 (runE r b)]):=by
 refine Spec.frozen (refRun_own r b h hb hr) [0,1] rfl ?_;intro r;rcases r with _ | _ | r<;>rfl
def callIs (w c:Int) (x:CallV):Bool:=x.who==w&&x.cur==c
def calledL (w c:Int):List CallV->Int
 | []=>-1
 | x :: r=>if callIs w c x then 0 else if calledL w c r < 0 then -1 else calledL w c r+1
theorem calledL_hit {w c:Int}:∀ {xs:List CallV} {i:Nat} (h:i < xs.length),(∀ j (hj:j < xs.length),j < i->callIs w c xs[j]=false)->callIs w c xs[i]=true->calledL w c xs=i
 | [],i,h,_,_=>by simp at h
 | x :: r,0,h,_,he=>by
  have he:callIs w c x=true:=he;simp [calledL,he]
 | x :: r,i+1,h,hn,he=>by
  have h0:callIs w c x=false:=hn 0 (by simp) (by omega);have h2:=calledL_hit (xs:=r) (i:=i) (by simpa using h) (fun j hj hji=>hn (j+1) (by simpa using hj) (by omega)) he;simp only [calledL,h0,h2];rw [if_neg (by simp),if_neg (by omega)];omega
theorem calledL_miss {w c:Int}:∀ {xs:List CallV},(∀ j (hj:j < xs.length),callIs w c xs[j]=false)->calledL w c xs = -1
 | [],_=>rfl
 | x :: r,hn=>by
  have h0:callIs w c x=false:=hn 0 (by simp);have h2:=calledL_miss (xs:=r) (fun j hj=>hn (j+1) (by simpa using hj));simp [calledL,h0,h2]
theorem calledL_ex {w c:Int}:∀ {xs:List CallV},¬ calledL w c xs < 0->∃ (i:Nat) (h:i < xs.length),calledL w c xs=i/\callIs w c xs[i]=true
 | [],h=>by simp [calledL] at h
 | t :: r,h=>by
  simp only [calledL] at h |-;split at h
  ·rename_i h1;exact ⟨0,by simp,by rw [if_pos h1];rfl,h1⟩
  ·rename_i h1;split at h
   ·omega
   ·rename_i h2;obtain ⟨i,hi,e,ho⟩:=calledL_ex (xs:=r) h2;refine ⟨i+1,by simp;omega,?_,by simpa using ho⟩;rw [if_neg h1,if_neg h2,e];rfl
def callAt (w c:Int) (xs:List CallV):CallV:=xs.getD (calledL w c xs).toNat ⟨0,0,0,0⟩
theorem refCalled_spec (w c:Int) (xs:List CallV) (hl:xs.length < 2 ^ 40):Abs.Spec Tryz.prog 29 [] [.int .i64 w,.int .i64 c,.sl 4 (xs.map CallV.cells)] [] (.int .i64 (calledL w c xs)):=by
 refine sgo 33 3 [.tmp 6] mixed Tryz.func29 ?_;simp only [go_sem,seval,lml];refine LoopK.walk (S:=Unit) xs.length [0,1,2] [] (fun i _=>[(7,.int .i64 i)]) (fun _ _=>[]) (fun i _=>∀ j (hj:j < xs.length),j < i->callIs w c xs[j]=false) () (by intros;omega) ?_ ?_ ?_
 ·simp only [go_sem,seval]<;>simp
 ·intro i _ hi hdi hwi hI;have hm:=map_at (c:=CallV.cells) xs hi;have hli:(i:Int) < (xs.length:Int):=by omega
  have hhit:=calledL_hit hi hI
  have hnext:callIs w c xs[i]=false->∀ j (hj:j < xs.length),j < i+1->callIs w c xs[j]=false:=fun h0 j hj hji=>by
   rcases Nat.lt_or_ge j i with h | h
   ·exact hI j hj h
   ·obtain rfl:j=i:=by omega
    exact h0
  obtain ⟨x,hx⟩:=nmE (xs[i]);rw [<- hx] at hm hhit hnext;simp only [callIs] at hhit hnext;simp only [CallV.cells] at hm;cases q1:x.who==w
  ·simp only [go_sem,seval,lml,hdi,hm,q1,hwi];(with_reducible and_intros)<;>first|exact .dq|omega|skip
   refine RoundK.step () hi (hnext (by simp [q1])) ?_;simp only [go_sem,seval]
  cases q2:x.cur==c
  ·simp only [go_sem,seval,lml,hdi,hm,q1,q2,hwi];(with_reducible and_intros)<;>first|exact .dq|omega|skip
   refine RoundK.step () hi (hnext (by simp [q2])) ?_;simp only [go_sem,seval]
  simp only [go_sem,seval,lml,hdi,hm,q1,q2,hhit (by simp [q1,q2])];(with_reducible and_intros)<;>first|exact .dq|omega|skip
 ·intro _ hdx hI;simp only [go_sem,seval,lml,hdx,calledL_miss (fun j hj=>hI j hj hj)]
def setP (xs:List CallV) (x:CallV) (w c:Int):List CallV:=if x.who==w&&x.cur==c then (if 0 < x.amt then [x] else []) else if calledL w c xs < 0 then [] else [callAt w c xs]
def setC (xs:List CallV) (x:CallV) (w:Int) (i:Nat):List CallV:=frm (fun k=>setP xs x w k) i
def setW (xs:List CallV) (x:CallV) (i:Nat):List CallV:=frm (fun k=>setC xs x ((k:Int)+1) 3) i
theorem setP_len (xs:List CallV) (x:CallV) (w c:Int):(setP xs x w c).length<=1:=by
 unfold setP;split
 ·split<;>simp
 ·split<;>simp
theorem setC_len (xs:List CallV) (x:CallV) (w:Int) (i:Nat):(setC xs x w i).length<=i:=by
 have:=frm_len (f:=fun k=>setP xs x w (k:Nat)) (m:=1) (fun k=>setP_len _ _ _ _) i;simpa [setC] using this
theorem setW_len (xs:List CallV) (x:CallV) (i:Nat):(setW xs x i).length<=3*i:=frm_len (fun k=>setC_len _ _ _ _) i
theorem refSet_own (xs:List CallV) (x:CallV) (hl:xs.length < 2 ^ 30):Abs.Spec Tryz.prog 284 [] [.sl 4 (xs.map CallV.cells),.agg x.cells] [.own 4 ((setW xs x 16).map CallV.cells)] (.ref 0):=by
 have c1:=fun w c=>refCalled_spec w c xs (by omega)
 refine sgo 51 2 [.tmp 4] mixed Tryz.func284 ?_;simp only [CallV.cells];simp only [go_sem,seval];refine LoopK.walk (S:=Unit) 16 [0,3] [64] (fun i _=>[(6,.int .i64 ((i:Int)+1)),(5,.ref 592)]) (fun i _=>[(592,.own 4 ((setW xs x i).map CallV.cells))]) (fun _ _=>True) () trivial ?_ ?_ ?_
 ·simp only [go_sem,seval,setW,frm_zero]<;>simp
 ·intro i _ hi _ _ _;obtain ⟨w,hw⟩:=nmE ((i:Int)+1);have hd:decide (w<=16)=true:=decide_eq_true (by omega);have hww:IntKind.wrap .i64 (w+1)=((i+1:Nat):Int)+1:=by rw [wr64 (by omega) (by omega)];omega
  have hnx:setW xs x (i+1)=setW xs x i++setC xs x w 3:=by rw [hw];exact frm_step _ i
  have hwl:=setW_len xs x i;obtain ⟨W,hW⟩:=nmE (setW xs x i);rw [<- hW] at hnx hwl |-;rw [<- hw];simp only [go_sem,seval,hd];refine LoopK.walk (S:=Unit) 3 [0,3,6] [64] (fun j _=>[(7,.int .i64 j),(5,.ref 592)]) (fun j _=>[(592,.own 4 ((W++setC xs x w j).map CallV.cells))]) (fun _ _=>True) () trivial ?_ ?_ ?_
  ·simp only [go_sem,seval,setC,frm_zero]<;>simp
  ·intro c _ hc hdc hwc _;have hdc:decide ((c:Int) < 3)=true:=hdc;have hnc:setC xs x w (c+1)=setC xs x w c++setP xs x w c:=frm_step _ c;have hlc:=setC_len xs x w c;obtain ⟨V,hV⟩:=nmE (W++setC xs x w c);have hVl:V.length<=100:=by rw [hV,List.length_append];omega
   have hnV:W++setC xs x w (c+1)=V++setP xs x w c:=by rw [hnc,hV,List.append_assoc]
   have c1:=c1 w c;rw [<- hV];clear hV hnc hW hnx;simp only [setP] at hnV
   have rest:(x.who==w&&x.cur==(c:Int))=false->∀ {Q:Prop},(calledL w c xs < 0->W++setC xs x w (c+1)=V->Q)->(∀ (k:Nat) (hk:k < xs.length),calledL w c xs=k->W++setC xs x w (c+1)=V++[xs[k]]->Q)->Q:=fun h0 Q f1 f2=>by
    by_cases h:calledL w c xs < 0
    ·rw [h0,if_neg (by simp),if_pos h,List.append_nil] at hnV;exact f1 h hnV
    ·obtain ⟨k,hk,hk2,_⟩:=calledL_ex h;rw [h0,if_neg (by simp),if_neg h] at hnV;exact f2 k hk hk2 (by rw [hnV,callAt,hk2];simp [hk])
   have hsw:(w==x.who)=(x.who==w):=by rw [Bool.eq_iff_iff];simp only [beq_iff_eq];exact eq_comm
   cases q1:x.who==w
   ·refine rest (by simp [q1]) (fun h hn=>?_) (fun k hk h hn=>?_)
    ·have d:decide (0<=calledL w c xs)=false:=decide_eq_false (by omega);simp only [go_sem,seval,hdc,hsw,q1];(with_reducible and_intros)<;>first|exact .dq|omega|skip
     refine CallN.pure c1 ?_;simp only [go_sem,seval,d,hwc];refine RoundK.step () hc trivial ?_;simp only [go_sem,seval,hn]
    ·have hm:=map_at (c:=CallV.cells) xs hk;have hlk:(k:Int) < (xs.length:Int):=by omega
     simp only [CallV.cells] at hm;rw [h] at c1;simp only [go_sem,seval,hdc,hsw,q1];(with_reducible and_intros)<;>first|exact .dq|omega|skip
     refine CallN.pure c1 ?_;simp only [go_sem,seval,hwc,hm,lml];(with_reducible and_intros)<;>first|exact .dq|omega|skip
     refine RoundK.step () hc trivial ?_;simp only [go_sem,seval,hn]<;>simp
   cases q2:x.cur==(c:Int)
   ·have q3:((c:Int)==x.cur)=false:=by rw [<- q2,Bool.eq_iff_iff];simp;omega
    refine rest (by simp [q2]) (fun h hn=>?_) (fun k hk h hn=>?_)
    ·have d:decide (0<=calledL w c xs)=false:=decide_eq_false (by omega);simp only [go_sem,seval,hdc,hsw,q1,q2,q3];(with_reducible and_intros)<;>first|exact .dq|omega|skip
     refine CallN.pure c1 ?_;simp only [go_sem,seval,d,hwc];refine RoundK.step () hc trivial ?_;simp only [go_sem,seval,hn]
    ·have hm:=map_at (c:=CallV.cells) xs hk;have hlk:(k:Int) < (xs.length:Int):=by omega
     simp only [CallV.cells] at hm;rw [h] at c1;simp only [go_sem,seval,hdc,hsw,q1,q2,q3];(with_reducible and_intros)<;>first|exact .dq|omega|skip
     refine CallN.pure c1 ?_;simp only [go_sem,seval,hwc,hm,lml];(with_reducible and_intros)<;>first|exact .dq|omega|skip
     refine RoundK.step () hc trivial ?_;simp only [go_sem,seval,hn]<;>simp
   have q3:((c:Int)==x.cur)=true:=by rw [<- q2,Bool.eq_iff_iff];simp;omega
   have q4:(w==x.who)=true:=by rw [<- q1,Bool.eq_iff_iff];simp;omega
   by_cases q5:0 < x.amt
   ·have d:decide (0 < x.amt)=true:=decide_eq_true q5;simp only [q1,q2,Bool.and_self,if_true,if_pos q5] at hnV;simp only [go_sem,seval,hdc,q1,q2,q3,q4,d,hwc,lml];(with_reducible and_intros)<;>first|exact .dq|omega|skip
    refine RoundK.step () hc trivial ?_;simp only [go_sem,seval,hnV]<;>simp
   ·have d:decide (0 < x.amt)=false:=decide_eq_false q5;simp only [q1,q2,Bool.and_self,if_true,if_neg q5,List.append_nil] at hnV;simp only [go_sem,seval,hdc,q1,q2,q3,q4,d,hwc];refine RoundK.step () hc trivial ?_;simp only [go_sem,seval,hnV]
  ·intro _ hdc _;have hdc:decide ((3:Int) < 3)=false:=hdc;simp only [go_sem,seval,hdc,hww];refine RoundK.step () hi trivial ?_;simp only [go_sem,seval,hnx]
 ·intro _ _ _;simp only [go_sem,seval]
theorem refSet_spec (xs:List CallV) (x:CallV) (hl:xs.length < 2 ^ 30):Abs.Spec Tryz.prog 284 [] [.sl 4 (xs.map CallV.cells),.agg x.cells] [] (.sl 4 ((setW xs x 16).map CallV.cells)):=by
 refine Spec.frozen (refSet_own xs x hl) [0] rfl ?_;intro r;rcases r with _ | r<;>rfl
def dueOk (d:DueV):Bool:=(within d.who 1 16&&within d.cur 0 2)&&within d.amt 0 4611686018427387904
theorem refCallable_spec (d:DueV):Abs.Spec Tryz.prog 283 [] [.agg d.cells] [] (.bool (dueOk d)):=by
 have c1:=refWho_spec d.who;have c2:=refCur_spec d.cur;have c3:=within15_spec d.amt 0 4611686018427387904;simp only [DueV.cells,dueOk];refine sgo 16 1 [.tmp 2] mixed Tryz.func283 ?_;simp only [go_sem,seval];(with_reducible and_intros)<;>first|exact .dq|omega|skip
 refine CallN.pure c1 ?_;cases q1:within d.who 1 16
 ·simp only [go_sem,seval,Bool.false_and]
 simp only [go_sem,seval];(with_reducible and_intros)<;>first|exact .dq|omega|skip
 refine CallN.pure c2 ?_;cases q2:within d.cur 0 2
 ·simp only [go_sem,seval,Bool.false_and,Bool.and_false]
 simp only [go_sem,seval];(with_reducible and_intros)<;>first|exact .dq|omega|skip
 refine CallN.pure c3 ?_;simp only [go_sem,seval,Bool.true_and]
def askE (xs:List CallV) (d:DueV) (at_:Int):Int:=if chB callOk callLt xs then (if dueOk d&&within at_ 0 1099511627776 then 0 else 3) else 14
def askL (xs:List CallV) (d:DueV) (at_:Int):List CallV:=if askE xs d at_=0 then setW xs ⟨d.who,d.cur,d.amt,if calledL d.who d.cur xs < 0 then at_ else (callAt d.who d.cur xs).till⟩ 16 else []
theorem refAsk_spec (xs:List CallV) (d:DueV) (at_:Int) (hl:xs.length < 2 ^ 30):Abs.Spec Tryz.prog 242 [] [.sl 4 (xs.map CallV.cells),.agg d.cells,.int .i64 at_] [] (.tup [.sl 4 ((askL xs d at_).map CallV.cells),.int .i64 (askE xs d at_)]):=by
 have c1:=refCalls_spec xs hl;have c2:=refCallable_spec d;have c3:=within15_spec at_ 0 1099511627776;have c4:=refCalled_spec d.who d.cur xs (by omega);have c5:=fun x=>refSet_spec xs x hl
 simp only [DueV.cells,CallV.cells] at c2 c5 |-;refine sgo 38 3 [.tmp 6,.tmp 7] mixed Tryz.func242 ?_;simp only [go_sem,seval];(with_reducible and_intros)<;>first|exact .dq|omega|skip
 refine CallN.pure c1 ?_;cases b1:chB callOk callLt xs
 ·have e:askE xs d at_=14:=by simp [askE,b1]
  simp only [go_sem,seval,askL,e]<;>simp
 simp only [go_sem,seval];(with_reducible and_intros)<;>first|exact .dq|omega|skip
 refine CallN.pure c2 ?_;cases b2:dueOk d
 ·have e:askE xs d at_=3:=by simp [askE,b1,b2]
  simp only [go_sem,seval,askL,e]<;>simp
 simp only [go_sem,seval];(with_reducible and_intros)<;>first|exact .dq|omega|skip
 refine CallN.pure c3 ?_;cases b3:within at_ 0 1099511627776
 ·have e:askE xs d at_=3:=by simp [askE,b1,b2,b3]
  simp only [go_sem,seval,askL,e]<;>simp
 have e:askE xs d at_=0:=by simp [askE,b1,b2,b3]
 simp only [askL,e];simp only [go_sem,seval];(with_reducible and_intros)<;>first|exact .dq|omega|skip
 refine CallN.pure c4 ?_
 by_cases h:calledL d.who d.cur xs < 0
 ·have dd:decide (0<=calledL d.who d.cur xs)=false:=decide_eq_false (by omega);have c5:=c5 ⟨d.who,d.cur,d.amt,at_⟩;rw [if_pos h];simp only [go_sem,seval,dd];(with_reducible and_intros)<;>first|exact .dq|omega|skip
  refine CallN.pure c5 ?_;simp only [go_sem,seval]
 ·obtain ⟨k,hk,hk2,_⟩:=calledL_ex h;have hm:=map_at (c:=CallV.cells) xs hk;have hlk:(k:Int) < (xs.length:Int):=by omega
  have hc:callAt d.who d.cur xs=xs[k]:=by rw [callAt,hk2];simp [hk]
  have c5:=c5 ⟨d.who,d.cur,d.amt,xs[k].till⟩;simp only [CallV.cells] at hm;rw [if_neg h,hc];simp only [go_sem,seval,hk2,hm,lml];(with_reducible and_intros)<;>first|exact .dq|omega|skip
  refine CallN.pure c5 ?_;simp only [go_sem,seval]
def meetE (xs:List CallV) (d:DueV):Int:=if chB callOk callLt xs then (if dueOk d then 0 else 3) else 14
def meetC (xs:List CallV) (d:DueV):CallV:=if calledL d.who d.cur xs < 0 then ⟨d.who,d.cur,0,0⟩ else { callAt d.who d.cur xs with amt:=max ((callAt d.who d.cur xs).amt-d.amt) 0 }
def meetL (xs:List CallV) (d:DueV):List CallV:=if meetE xs d=0 then setW xs (meetC xs d) 16 else []
theorem refMeet_spec (xs:List CallV) (d:DueV) (hl:xs.length < 2 ^ 30):Abs.Spec Tryz.prog 225 [] [.sl 4 (xs.map CallV.cells),.agg d.cells] [] (.tup [.sl 4 ((meetL xs d).map CallV.cells),.int .i64 (meetE xs d)]):=by
 have c1:=refCalls_spec xs hl;have c2:=refCallable_spec d;have c4:=refCalled_spec d.who d.cur xs (by omega);have c5:=fun x=>refSet_spec xs x hl
 simp only [DueV.cells,CallV.cells] at c2 c5 |-;refine sgo 46 2 [.tmp 4,.tmp 5] mixed Tryz.func225 ?_;simp only [go_sem,seval];(with_reducible and_intros)<;>first|exact .dq|omega|skip
 refine CallN.pure c1 ?_;cases b1:chB callOk callLt xs
 ·have e:meetE xs d=14:=by simp [meetE,b1]
  simp only [go_sem,seval,meetL,e]<;>simp
 simp only [go_sem,seval];(with_reducible and_intros)<;>first|exact .dq|omega|skip
 refine CallN.pure c2 ?_;cases b2:dueOk d
 ·have e:meetE xs d=3:=by simp [meetE,b1,b2]
  simp only [go_sem,seval,meetL,e]<;>simp
 have e:meetE xs d=0:=by simp [meetE,b1,b2]
 simp only [meetL,e];simp only [go_sem,seval];(with_reducible and_intros)<;>first|exact .dq|omega|skip
 refine CallN.pure c4 ?_
 by_cases h:calledL d.who d.cur xs < 0
 ·have dd:decide (calledL d.who d.cur xs < 0)=true:=decide_eq_true h;have c5:=c5 ⟨d.who,d.cur,0,0⟩;simp only [meetC];rw [if_pos h];simp only [go_sem,seval,dd];(with_reducible and_intros)<;>first|exact .dq|omega|skip
  refine CallN.pure c5 ?_;simp only [go_sem,seval]
 ·obtain ⟨k,hk,hk2,_⟩:=calledL_ex h;have hm:=map_at (c:=CallV.cells) xs hk;have hlk:(k:Int) < (xs.length:Int):=by omega
  have hc:callAt d.who d.cur xs=xs[k]:=by rw [callAt,hk2];simp [hk]
  have hok:=chB_ok b1 hk;simp only [callOk,within,bae,decide_eq_true_eq] at hok;simp only [dueOk,within,bae,decide_eq_true_eq] at b2;simp only [meetC];rw [if_neg h,hc];obtain ⟨x,hx⟩:=nmE (xs[k]);rw [<- hx] at hm hok |-;have hw:IntKind.wrap .i64 (x.amt-d.amt)=x.amt-d.amt:=wr64 (by omega) (by omega);have c5:=c5 { x with amt:=max (x.amt-d.amt) 0 };simp only [CallV.cells] at hm c5;have dd:decide ((k:Int) < 0)=false:=decide_eq_false (by omega);simp only [go_sem,seval,hk2,dd,hm,lml,hw];(with_reducible and_intros)<;>first|exact .dq|omega|skip
  refine CallN.pure c5 ?_;simp only [go_sem,seval]
def lateA (n:Int) (xs:List CallV):List CallV:=xs.flatMap fun x=>if x.till<=n then [x] else []
def lateB (n:Int) (xs:List CallV):List CallV:=xs.flatMap fun x=>if x.till<=n then [] else [x]
theorem refLate_own (n:Int) (xs:List CallV) (hl:xs.length < 2 ^ 30):Abs.Spec Tryz.prog 243 [] [.int .i64 n,.sl 4 (xs.map CallV.cells)] [.own 4 ((lateA n xs).map CallV.cells),.own 4 ((lateB n xs).map CallV.cells)] (.tup [.ref 0,.ref 1]):=by
 refine sgo 38 2 [.tmp 4,.tmp 5] mixed Tryz.func243 ?_;simp only [go_sem,seval,lml];refine LoopK.walk (S:=Unit) xs.length [0,1] [] (fun i _=>[(8,.int .i64 i),(6,.ref 464),(7,.ref 576)]) (fun i _=>[(464,.own 4 ((lateA n (xs.take i)).map CallV.cells)),(576,.own 4 ((lateB n (xs.take i)).map CallV.cells))]) (fun _ _=>True) () trivial ?_ ?_ ?_
 ·simp only [go_sem,seval]<;>simp [lateA,lateB]
 ·intro i _ hi hdi hwi _;have hm:=map_at (c:=CallV.cells) xs hi;have hli:(i:Int) < (xs.length:Int):=by omega
  have hlt:(xs.take i).length=i:=by simp;omega
  have hA:lateA n (xs.take (i+1))=lateA n (xs.take i)++_:=fm_step _ hi;have hB:lateB n (xs.take (i+1))=lateB n (xs.take i)++_:=fm_step _ hi;have hAl:(lateA n (xs.take i)).length<=1*(xs.take i).length:=fm_len (fun x=>by split<;>simp) _;have hBl:(lateB n (xs.take i)).length<=1*(xs.take i).length:=fm_len (fun x=>by split<;>simp) _;obtain ⟨L,hL⟩:=nmE (lateA n (xs.take i));obtain ⟨M,hM⟩:=nmE (lateB n (xs.take i));obtain ⟨x,hx⟩:=nmE (xs[i]);rw [<- hL] at hA hAl;rw [<- hM] at hB hBl;rw [<- hx] at hA hB hm;rw [<- hL,<- hM];simp only [CallV.cells] at hm
  by_cases q:x.till<=n
  ·have d:decide (x.till<=n)=true:=decide_eq_true q;rw [if_pos q] at hA hB;simp only [go_sem,seval,lml,hdi,hm,d,hwi];(with_reducible and_intros)<;>first|exact .dq|omega|skip
   refine RoundK.step () hi trivial ?_;simp only [go_sem,seval,hA,hB]<;>simp
  ·have d:decide (x.till<=n)=false:=decide_eq_false q;rw [if_neg q] at hA hB;simp only [go_sem,seval,lml,hdi,hm,d,hwi];(with_reducible and_intros)<;>first|exact .dq|omega|skip
   refine RoundK.step () hi trivial ?_;simp only [go_sem,seval,hA,hB]<;>simp
 ·intro _ hdx _;simp only [go_sem,seval,lml,hdx,List.take_length]
theorem refLate_spec (n:Int) (xs:List CallV) (hl:xs.length < 2 ^ 30):Abs.Spec Tryz.prog 243 [] [.int .i64 n,.sl 4 (xs.map CallV.cells)] [] (.tup [.sl 4 ((lateA n xs).map CallV.cells),.sl 4 ((lateB n xs).map CallV.cells)]):=by
 refine Spec.frozen (refLate_own n xs hl) [0,1] rfl ?_;intro r;rcases r with _ | _ | r<;>rfl
def withoutL (xs:List CallV) (ws:List Int):List CallV:=xs.flatMap fun x=>if inK ws x.who then [] else [x]
theorem refWithout_own (xs:List CallV) (ws:List Int) (hl:xs.length < 2 ^ 30) (hs:ws.length < 2 ^ 30):Abs.Spec Tryz.prog 245 [] [.sl 4 (xs.map CallV.cells),.sl 1 (ints ws)] [.own 4 ((withoutL xs ws).map CallV.cells)] (.ref 0):=by
 refine sgo 45 2 [.tmp 4] mixed Tryz.func245 ?_;simp only [go_sem,seval,lml];refine LoopK.walk (S:=Unit) xs.length [0,1] [] (fun i _=>[(6,.int .i64 i),(5,.ref 704)]) (fun i _=>[(704,.own 4 ((withoutL (xs.take i) ws).map CallV.cells))]) (fun _ _=>True) () trivial ?_ ?_ ?_
 ·simp only [go_sem,seval]<;>simp [withoutL]
 ·intro i _ hi hdi hwi _;have hm:=map_at (c:=CallV.cells) xs hi;have hli:(i:Int) < (xs.length:Int):=by omega
  have hlt:(xs.take i).length=i:=by simp;omega
  have hA:withoutL (xs.take (i+1)) ws=withoutL (xs.take i) ws++_:=fm_step _ hi;have hAl:(withoutL (xs.take i) ws).length<=1*(xs.take i).length:=fm_len (fun x=>by split<;>simp) _;obtain ⟨L,hL⟩:=nmE (withoutL (xs.take i) ws);obtain ⟨x,hx⟩:=nmE (xs[i]);rw [<- hL] at hA hAl |-;rw [<- hx] at hA hm;simp only [CallV.cells] at hm;simp only [go_sem,seval,lml,hdi,ints_len];refine LoopK.walk (S:=Unit) ws.length [0,1,5,6] [704] (fun k _=>[(8,.int .i64 k),(7,.bool (inK (ws.take k) x.who))]) (fun _ _=>[]) (fun _ _=>True) () trivial ?_ ?_ ?_
  ·simp only [go_sem,seval]<;>simp [inK]
  ·intro k _ hk hdk hwk _;have hst:=inK_step ws x.who hk;have hlk:(k:Int) < (ws.length:Int):=by omega
   cases hb:inK (ws.take k) x.who
   ·rw [hb,Bool.false_or] at hst;simp only [go_sem,seval,lml,ints_len,hdk,ints_at ws hk,hm,hwk];(with_reducible and_intros)<;>first|exact .dq|omega|skip
    refine RoundK.step () hk trivial ?_;simp only [go_sem,seval,hst]
   ·rw [hb,Bool.true_or] at hst;simp only [go_sem,seval,lml,ints_len,hdk,ints_at ws hk,hm,hwk];(with_reducible and_intros)<;>first|exact .dq|omega|skip
    refine RoundK.step () hk trivial ?_;simp only [go_sem,seval,hst]
  ·intro _ hdk _;cases b1:inK ws x.who
   ·simp only [b1,bfe,if_false] at hA;simp only [go_sem,seval,ints_len,lml,hdk,List.take_length,b1,hm,hwi];(with_reducible and_intros)<;>first|exact .dq|omega|skip
    refine RoundK.step () hi trivial ?_;simp only [go_sem,seval,hA]<;>simp
   ·simp only [b1,if_true,List.append_nil] at hA;simp only [go_sem,seval,ints_len,lml,hdk,List.take_length,b1,hm,hwi];(with_reducible and_intros)<;>first|exact .dq|omega|skip
    refine RoundK.step () hi trivial ?_;simp only [go_sem,seval,hA]<;>simp
 ·intro _ hdx _;simp only [go_sem,seval,ints_len,lml,hdx,List.take_length]
theorem refWithout_spec (xs:List CallV) (ws:List Int) (hl:xs.length < 2 ^ 30) (hs:ws.length < 2 ^ 30):Abs.Spec Tryz.prog 245 [] [.sl 4 (xs.map CallV.cells),.sl 1 (ints ws)] [] (.sl 4 ((withoutL xs ws).map CallV.cells)):=by
 refine Spec.frozen (refWithout_own xs ws hl hs) [0] rfl ?_;intro r;rcases r with _ | r<;>rfl
def moneyB (l:List DueV):Bool:=l.all fun d=>inR d.amt
theorem refMoney_spec (l:List DueV) (hl:l.length < 2 ^ 40):Abs.Spec Tryz.prog 292 [] [.sl 3 (l.map DueV.cells)] [] (.bool (moneyB l)):=by
 refine sgo 17 1 [.tmp 2] mixed Tryz.func292 ?_;simp only [go_sem,seval,lml];refine LoopK.walk (S:=Unit) l.length [0] [] (fun i _=>[(3,.int .i64 i)]) (fun _ _=>[]) (fun i _=>moneyB (l.drop i)=moneyB l) () rfl ?_ ?_ ?_
 ·simp only [go_sem,seval]<;>simp
 ·intro i _ hi hdi hwi hI;have hm:=map_at (c:=DueV.cells) l hi;obtain ⟨x,hx⟩:=nmE (l[i]);have hN:=refRight_spec x.amt;have hli:(i:Int) < (l.length:Int):=by omega
  rw [drop_at hi,<- hx] at hI;rw [<- hx] at hm;have hc:moneyB (x :: l.drop (i+1))=(inR x.amt&&moneyB (l.drop (i+1))):=rfl;rw [hc] at hI;simp only [DueV.cells] at hm;simp only [go_sem,seval,lml,hdi,hm];(with_reducible and_intros)<;>first|exact .dq|omega|skip
  refine CallN.pure hN ?_;cases b2:inR x.amt
  ·rw [b2,Bool.false_and] at hI;simp only [go_sem,seval,<- hI]
  rw [b2,Bool.true_and] at hI;simp only [go_sem,seval,hwi];refine RoundK.step () hi hI ?_;simp only [go_sem,seval]
 ·intro _ hdx hI;rw [List.drop_length] at hI;rw [<- hI];simp only [go_sem,seval,lml,hdx];rfl
def dueIs (w c:Int) (d:DueV):Bool:=d.who==w&&d.cur==c
def grsL (w c:Int) (l:List DueV):List Int:=pick (dueIs w c) DueV.amt l
def grossE (w c:Int) (l:List DueV):Int:=if moneyB l then (if inR (sumL (grsL w c l)) then 0 else 1) else 3
def grossN (w c:Int) (l:List DueV):Int:=if grossE w c l=0 then sumL (grsL w c l) else 0
theorem refGross_spec (w c:Int) (l:List DueV) (hl:l.length < 2 ^ 29):Abs.Spec Tryz.prog 247 [] [.int .i64 w,.int .i64 c,.sl 3 (l.map DueV.cells)] [] (.tup [.int .i64 (grossN w c l),.int .i64 (grossE w c l)]):=by
 have hM:=refMoney_spec l (by omega);refine sgo 53 3 [.tmp 6,.tmp 7] mixed Tryz.func247 ?_;simp only [go_sem,seval];refine CallN.pure hM ?_;cases b1:moneyB l
 ·have e:grossE w c l=3:=by simp [grossE,b1]
  simp only [go_sem,seval,grossN,e]<;>simp
 have e:grossE w c l=if inR (sumL (grsL w c l)) then 0 else 1:=by simp [grossE,b1]
 have hmm:∀ x∈l,inR x.amt=true:=fun x hx=>List.all_eq_true.1 b1 x hx
 have hA:=refAdd_spec (grsL w c l) (pick_all fun x hx=>i64_of (hmm x hx)) (by have:=pick_len (dueIs w c) DueV.amt l;unfold grsL;omega);simp only [grossN];rw [e];clear e hM;simp only [go_sem,seval,lml];refine LoopK.walk (S:=Unit) l.length [0,1,2] [] (fun i _=>[(9,.int .i64 i),(8,.ref 720)]) (fun i _=>[(720,.own 1 (ints (grsL w c (l.take i))))]) (fun _ _=>True) () trivial ?_ ?_ ?_
 ·simp only [go_sem,seval]<;>simp [grsL,pick,ints]
 ·intro i _ hi hdi hwi _;have hm:=map_at (c:=DueV.cells) l hi;have hs:ints (grsL w c (l.take (i+1)))=ints (grsL w c (l.take i))++_:=pickI_step (dueIs w c) DueV.amt hi;have hlen:(grsL w c (l.take i)).length<=(l.take i).length:=pick_len (dueIs w c) DueV.amt (l.take i);have hlt:(l.take i).length=i:=by simp;omega
  have hli:(i:Int) < (l.length:Int):=by omega
  obtain ⟨x,hx⟩:=nmE (l[i]);obtain ⟨L,hL⟩:=nmE (grsL w c (l.take i));rw [<- hL] at hs hlen |-;rw [<- hx] at hs hm;simp only [DueV.cells] at hm;simp only [dueIs] at hs;cases q1:x.who==w
  ·simp only [q1,Bool.false_and,bfe,if_false,List.append_nil] at hs;simp only [go_sem,seval,lml,hdi,hm,q1,hwi];(with_reducible and_intros)<;>first|exact .dq|omega|skip
   refine RoundK.step () hi trivial ?_;simp only [go_sem,seval,hs]
  cases q2:x.cur==c
  ·simp only [q1,q2,Bool.and_false,bfe,if_false,List.append_nil] at hs;simp only [go_sem,seval,lml,hdi,hm,q1,q2,hwi];(with_reducible and_intros)<;>first|exact .dq|omega|skip
   refine RoundK.step () hi trivial ?_;simp only [go_sem,seval,hs]
  simp only [q1,q2,Bool.and_self,if_true] at hs;simp only [go_sem,seval,lml,hdi,hm,q1,q2,hwi,ints_len];(with_reducible and_intros)<;>first|exact .dq|omega|skip
  refine RoundK.step () hi trivial ?_;simp only [go_sem,seval,hs]
 ·intro _ hdx _;simp only [go_sem,seval,hdx,lml,List.take_length];refine CallN.gen [] [] true (by simp) ?_;simp only [go_sem,seval];refine CallG.intro hA ?_;cases b2:inR (sumL (grsL w c l))
  ·simp only [go_sem,seval,b2,addN]<;>simp
  ·simp only [go_sem,seval,b2,addN]<;>simp
def dueLt (a b:DueV):Bool:=decide (a.who < b.who)||(a.who==b.who&&decide (a.cur < b.cur))
theorem dueLt_iff {a b:DueV}:dueLt a b=true ↔ a.who < b.who\/(a.who=b.who/\a.cur < b.cur):=by simp [dueLt]
def DueV.zero:DueV:=⟨0,0,0⟩
def nextB (f:Bool) (last:DueV) (s:Bool × DueV) (d:DueV):Bool:=(f||dueLt last d)&&(!s.1||dueLt d s.2)
def scanL (f:Bool) (last:DueV):List DueV->Bool × DueV->Bool × DueV
 | [],s=>s
 | d :: r,s=>scanL f last r (if nextB f last s d then (true,d) else s)
theorem scanL_mem {f:Bool} {last:DueV}:∀ {l:List DueV} {s:Bool × DueV},(scanL f last l s).1=true->scanL f last l s=s\/((scanL f last l s).2∈l/\(f||dueLt last (scanL f last l s).2)=true)
 | [],s,_=>.inl rfl
 | d :: r,s,h=>by
  simp only [scanL] at h |-;rcases scanL_mem (l:=r) h with e | ⟨h1,h2⟩
  ·rw [e];split
   ·rename_i hb;simp only [nextB,bae] at hb;exact .inr ⟨by simp,hb.1⟩
   ·exact .inl rfl
  ·exact .inr ⟨by simp [h1],h2⟩
def cntL (f:Bool) (last:DueV) (l:List DueV):Nat:=l.countP fun d=>f||dueLt last d
theorem cnt_lt {A:Type} {p q:A->Bool}:∀ {l:List A} {d:A},(∀ x,p x=true->q x=true)->d∈l->q d=true->p d=false->l.countP p < l.countP q
 | [],d,_,h,_,_=>by cases h
 | x :: r,d,hpq,hm,hq,hp=>by
  have hle:r.countP p<=r.countP q:=List.countP_mono_left fun y _ h=>hpq y h
  simp only [List.countP_cons];rcases List.mem_cons.1 hm with rfl | hm
  ·rw [hq,hp];simp;omega
  ·have:=cnt_lt hpq hm hq hp
   by_cases hx:p x=true
   ·rw [if_pos hx,if_pos (hpq x hx)];omega
   ·rw [if_neg hx];omega
theorem cntL_next {f:Bool} {last d:DueV} {l:List DueV} (hm:d∈l) (hd:(f||dueLt last d)=true):cntL false d l < cntL f last l:=by
 refine cnt_lt (fun x hx=>?_) hm hd ?_
 ·rw [Bool.false_or] at hx;cases f
  ·rw [Bool.false_or] at hd |-;rw [dueLt_iff] at hx hd |-;omega
  ·rfl
 ·rw [Bool.false_or];cases h:dueLt d d
  ·rfl
  ·rw [dueLt_iff] at h;omega
def netP (l:List DueV) (d:DueV):List DueV:=if grossN d.who d.cur l==0 then [] else [⟨d.who,d.cur,grossN d.who d.cur l⟩]
def netG (l:List DueV):Nat->Bool->DueV->List DueV->List DueV × Int
 | 0,_,_,out=>(out,0)
 | n+1,f,last,out =>
  if (scanL f last l (false,.zero)).1 then
   (if grossE (scanL f last l (false,.zero)).2.who (scanL f last l (false,.zero)).2.cur l=0 then netG l n false (scanL f last l (false,.zero)).2 (out++netP l (scanL f last l (false,.zero)).2)
    else ([],grossE (scanL f last l (false,.zero)).2.who (scanL f last l (false,.zero)).2.cur l))
  else (out,0)
def netR (l:List DueV):List DueV × Int:=if moneyB l then netG l (l.length+1) true .zero [] else ([],3)
theorem grossN_in (w c:Int) (l:List DueV):inR (grossN w c l)=true:=by
 unfold grossN;split
 ·rename_i h;unfold grossE at h;split at h
  ·split at h
   ·assumption
   ·cases h
  ·cases h
 ·rfl
theorem refNet_own (l:List DueV) (hl:l.length < 2 ^ 29):Abs.Spec Tryz.prog 237 [] [.sl 3 (l.map DueV.cells)] [.own 3 ((netR l).1.map DueV.cells)] (.tup [.ref 0,.int .i64 (netR l).2]):=by
 have hM:=refMoney_spec l (by omega);have hG:=fun w c=>refGross_spec w c l hl
 have hLs:∀ a b:DueV,Abs.Spec Tryz.prog 172 [] [.agg a.cells,.agg b.cells] [] (.bool (dueLt a b)):=fun a b=>dueLess_spec a b
 refine sgo 78 1 [.tmp 2,.tmp 3] mixed Tryz.func237 ?_;simp only [go_sem,seval];refine CallN.pure hM ?_;cases b1:moneyB l
 ·have e:netR l=([],3):=by simp [netR,b1]
  simp only [go_sem,seval,e]<;>simp
 have e:netR l=netG l (l.length+1) true .zero []:=by simp [netR,b1]
 obtain ⟨R,hR⟩:=nmE (netR l);rw [<- hR];rw [<- hR] at e;clear hR hM;simp only [go_sem,seval]
 refine LoopK.over (T:=Nat × DueV × List DueV) [0,5] [] (fun s=>[(6,.int .i64 ((l.length+1-s.1:Nat):Int)),(4,.ref 1248)]) (fun s=>[(96,.box s.2.1.cells),(1248,.own 3 (s.2.2.map DueV.cells))])
  (fun s=>cntL (s.1==l.length+1) s.2.1 l+1<=s.1/\s.1<=l.length+1/\s.2.2.length+s.1<=l.length+1/\netG l s.1 (s.1==l.length+1) s.2.1 s.2.2=R) (fun s=>s.1) (l.length+1,.zero,[]) ?_ ?_ ?_
 ·refine ⟨?_,Nat.le_refl _,by simp,by rw [e];simp⟩;have:cntL (l.length+1==l.length+1) DueV.zero l<=l.length:=List.countP_le_length
  show cntL (l.length+1==l.length+1) DueV.zero l+1<=l.length+1
  omega
 ·simp only [go_sem,seval,DueV.zero]<;>simp
 rintro ⟨n,last,out⟩ ⟨h1,h2,h3,h4⟩
 dsimp only at h1 h2 h3 h4 |-;obtain ⟨m,rfl⟩:∃ m,n=m+1:=⟨n-1,by omega⟩
 have hk:l.length+1-(m+1)=l.length-m:=by omega
 obtain ⟨f,hf⟩:=nmE ((m+1==l.length+1));have hf0:(((l.length-m:Nat):Int)==0)=f:=by rw [hf,Bool.eq_iff_iff];simp;omega
 rw [<- hf] at h1 h4;rw [hk];simp only [go_sem,seval];refine LoopK.walk (S:=Bool × DueV) l.length [0,4,5,6,8] [96,1248] (fun i s=>[(9,.int .i64 i),(7,.bool s.1)]) (fun i s=>[(144,.box s.2.cells)]) (fun i s=>scanL f last (l.drop i) s=scanL f last l (false,.zero)) (false,.zero) rfl ?_ ?_ ?_
 ·simp only [go_sem,seval,DueV.zero]<;>simp
 ·rintro i ⟨s1,s2⟩ hi hdi hwi hI
  have hm:=map_at (c:=DueV.cells) l hi;have hli:(i:Int) < (l.length:Int):=by omega
  obtain ⟨x,hx⟩:=nmE (l[i]);have k1:=hLs last x;have k2:=hLs x s2;rw [drop_at hi,<- hx] at hI;rw [<- hx] at hm;simp only [scanL,nextB] at hI;simp only [DueV.cells] at hm k1 k2;clear hG hLs h4;cases f
  ·simp only [go_sem,seval,lml,hdi,hm,hf0];(with_reducible and_intros)<;>first|exact .dq|omega|skip
   refine CallN.pure k1 ?_;cases q1:dueLt last x
   ·simp only [q1,Bool.false_or,Bool.false_and,bfe,if_false] at hI;simp only [go_sem,seval,q1,hwi];(with_reducible and_intros)<;>first|exact .dq|omega|skip
    refine RoundK.step (s1,s2) hi hI ?_;simp only [go_sem,seval]
   cases s1
   ·simp only [q1,Bool.false_or,Bool.true_and,Bool.not_false,Bool.true_or,if_true] at hI;simp only [go_sem,seval,lml,q1,hm,hwi];(with_reducible and_intros)<;>first|exact .dq|omega|skip
    refine RoundK.step (true,x) hi hI ?_;simp only [go_sem,seval]
   simp only [go_sem,seval,q1,lml,hm];(with_reducible and_intros)<;>first|exact .dq|omega|skip
   refine CallN.pure k2 ?_;cases q2:dueLt x s2
   ·simp only [q1,q2,Bool.false_or,Bool.true_and,Bool.not_true,bfe,if_false] at hI;simp only [go_sem,seval,q2,hwi];(with_reducible and_intros)<;>first|exact .dq|omega|skip
    refine RoundK.step (true,s2) hi hI ?_;simp only [go_sem,seval]
   simp only [q1,q2,Bool.false_or,Bool.true_and,Bool.not_true,Bool.or_true,if_true] at hI;simp only [go_sem,seval,q2,hwi,lml,hm];(with_reducible and_intros)<;>first|exact .dq|omega|skip
   refine RoundK.step (true,x) hi hI ?_;simp only [go_sem,seval]
  ·cases s1
   ·simp only [Bool.true_or,Bool.true_and,Bool.not_false,if_true] at hI;simp only [go_sem,seval,lml,hdi,hm,hf0,hwi];(with_reducible and_intros)<;>first|exact .dq|omega|skip
    refine RoundK.step (true,x) hi hI ?_;simp only [go_sem,seval]
   simp only [go_sem,seval,lml,hdi,hm,hf0];(with_reducible and_intros)<;>first|exact .dq|omega|skip
   refine CallN.pure k2 ?_;cases q2:dueLt x s2
   ·simp only [q2,Bool.true_or,Bool.true_and,Bool.not_true,Bool.or_false,bfe,if_false] at hI;simp only [go_sem,seval,q2,hwi];(with_reducible and_intros)<;>first|exact .dq|omega|skip
    refine RoundK.step (true,s2) hi hI ?_;simp only [go_sem,seval]
   simp only [q2,Bool.true_or,Bool.true_and,Bool.not_true,Bool.or_true,if_true] at hI;simp only [go_sem,seval,q2,hwi,lml,hm];(with_reducible and_intros)<;>first|exact .dq|omega|skip
   refine RoundK.step (true,x) hi hI ?_;simp only [go_sem,seval]
 ·rintro ⟨s1,s2⟩ hdx hI
  rw [List.drop_length] at hI;have hI:scanL f last l (false,.zero)=(s1,s2):=hI.symm;simp only [netG,hI] at h4;have hG:=hG s2.who s2.cur;have hin:=inR_iff.1 (grossN_in s2.who s2.cur l);cases s1
  ·simp only [bfe,if_false] at h4;rw [<- h4];simp only [go_sem,seval,lml,hdx]
  have hmem:s2∈l/\(f||dueLt last s2)=true:=by
   have:=scanL_mem (f:=f) (last:=last) (l:=l) (s:=(false,.zero)) (by rw [hI]);rw [hI] at this;rcases this with h | h
   ·cases h
   ·exact h
  have hcn:=cntL_next hmem.1 hmem.2;simp only [if_true] at h4;simp only [go_sem,seval,lml,hdx];(with_reducible and_intros)<;>first|exact .dq|omega|skip
  refine CallN.pure hG ?_
  by_cases q1:grossE s2.who s2.cur l=0
  case neg =>
   have d:(grossE s2.who s2.cur l==0)=false:=by simpa using q1
   rw [if_neg q1] at h4;rw [<- h4];simp only [go_sem,seval,bne,d]
   all_goals simp
  rw [if_pos q1] at h4;have hwk:IntKind.wrap .i64 (((l.length-m:Nat):Int)+1)=((l.length+1-m:Nat):Int):=by rw [wr64 (by omega) (by omega)];omega
  have hfm:(m==l.length+1)=false:=by simp;omega
  simp only [netP] at h4;cases q2:grossN s2.who s2.cur l==0
  ·simp only [q2,bfe,if_false] at h4;simp only [go_sem,seval,bne,q1,q2,hwk,lml];(with_reducible and_intros)<;>first|exact .dq|omega|skip
   refine ⟨(m,s2,out++[⟨s2.who,s2.cur,grossN s2.who s2.cur l⟩]),⟨?_,by omega,by simp;omega,by simp only [hfm];exact h4⟩,?_,by simp⟩
   ·simp only [hfm];omega
   ·simp only [go_sem,seval]<;>simp
  ·simp only [q2,if_true,List.append_nil] at h4;simp only [go_sem,seval,bne,q1,q2,hwk];(with_reducible and_intros)<;>first|exact .dq|omega|skip
   refine ⟨(m,s2,out),⟨?_,by omega,by simp;omega,by simp only [hfm];exact h4⟩,?_,by simp⟩
   ·simp only [hfm];omega
   ·simp only [go_sem,seval]
theorem refNet_spec (l:List DueV) (hl:l.length < 2 ^ 29):Abs.Spec Tryz.prog 237 [] [.sl 3 (l.map DueV.cells)] [] (.tup [.sl 3 ((netR l).1.map DueV.cells),.int .i64 (netR l).2]):=by
 refine Spec.frozen (refNet_own l hl) [0] rfl ?_;intro r;rcases r with _ | r<;>rfl
end Go.Proofs.YtgnhdbdipfncgaaGreat
