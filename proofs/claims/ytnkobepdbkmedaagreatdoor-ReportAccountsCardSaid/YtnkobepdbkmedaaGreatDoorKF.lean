/- The reference's postings: accounts, legs, and what follows. No theorem of a claim. -/
import Derived.Test.YtnkobepdbkmedaaGreatDoorKD
import Derived.Test.YtnkobepdbkmedaaGreatDoorAbcAuto
import Derived.Test.YtnkobepdbkmedaaGreatDoorKE
set_option linter.unusedSimpArgs false
set_option linter.unusedVariables false
set_option maxHeartbeats 4000000
set_option maxRecDepth 16000
namespace Go.Proofs.YtnkobepdbkmedaaGreatDoor
open Go.Abs
structure aY where
 kind:Int
 who:Int
 cur:Int
 cm:Int
deriving DecidableEq
@[reducible] def aY.cells (x:aY):List D:=[.int .i64 x.kind,.int .i64 x.who,.int .i64 x.cur,.int .i64 x.cm]
def aY.bB (x:aY):aD:=⟨x.kind,x.who,x.cur⟩
def aY.cU (x:aY):Prop:=dj x.kind/\dj x.who/\dj x.cur/\dj x.cm
def acc (k w c:Nat):List aD:=if aD.right ⟨(k:Int)+1,w,c⟩ then [⟨(k:Int)+1,w,c⟩] else []
def tE (k w:Nat) (i:Nat):List aD:=(List.range i).flatMap (acc k w)
def sG (k:Nat) (i:Nat):List aD:=(List.range i).flatMap fun w=>tE k w 3
def tX (i:Nat):List aD:=(List.range i).flatMap fun k=>sG k 17
def gv:List aD:=tX 6
theorem GR (k w i:Nat):(tE k w i).length<=i:=by
 have:=Cp (f:=acc k w) (m:=1) (fun c=>by simp only [acc];split<;>simp) i;simpa [tE] using this
theorem EO (k i:Nat):(sG k i).length<=3*i:=Cp (fun w=>GR k w 3) i
theorem F9 (i:Nat):(tX i).length<=51*i:=Cp (fun k=>EO k 17) i
theorem tY:gv.length<=306:=F9 6
theorem BD:Abs.Spec Tryz.prog 232 [] [.sl 1 [[.int .i64 1],[.int .i64 2],[.int .i64 3],[.int .i64 4],[.int .i64 5],[.int .i64 6]]] [.own 3 (gv.map aD.cells)] (.ref 0):=by
 obtain ⟨ks,hks⟩:=aH ([1,2,3,4,5,(6:Int)]);have hl:ks.length=6:=by rw [hks];rfl
 have he:([[.int .i64 1],[.int .i64 2],[.int .i64 3],[.int .i64 4],[.int .i64 5],[.int .i64 6]]:List (List D))=ints ks:=by rw [hks];rfl
 have hin:∀ i:Nat,i < 6->lR ks ((i:Int)+1)=true:=fun i hi=>by
  rw [hks];simp only [lR,List.any_cons,List.any_nil,Bool.or_eq_true,beq_iff_eq];omega
 rw [he];clear he hks;refine bu 51 1 [.tmp 2] mixed Tryz.func232 ?_;simp only [go_sem,seval];refine aC.walk (S:=Unit) 6 [0] [] (fun i _=>[(4,.int .i64 ((i:Int)+1)),(3,.ref 800)]) (fun i _=>[(800,.own 3 ((tX i).map aD.cells))]) (fun _ _=>True) () trivial ?_ ?_ ?_
 ·simp only [go_sem,seval]<;>simp [tX]
 ·intro k _ hk _ _ _;have hd:decide ((k:Int)+1<=6)=true:=decide_eq_true (by omega);have hwk:IntKind.wrap .i64 ((k:Int)+1+1)=((k+1:Nat):Int)+1:=by rw [bn (by omega) (by omega)];omega
  obtain ⟨K,hK⟩:=aH ((k:Int)+1);have hnext:tX (k+1)=tX k++sG k 17:=nW _ k;have hlen:=F9 k;rw [<- hK] at hd hwk |-;simp only [go_sem,seval,hd,av,hl];refine aC.walk (S:=Unit) 6 [0,3,4] [800] (fun j _=>[(6,.int .i64 j),(5,.bool (lR (ks.take j) K))]) (fun _ _=>[]) (fun _ _=>True) () trivial ?_ ?_ ?_
  ·simp only [go_sem,seval]<;>simp [lR]
  ·intro j _ hj hdj hwj _;have hj':j < ks.length:=by omega
   have hst:=vg ks K hj';have hdj:decide ((j:Int) < 6)=true:=hdj;cases hb:lR (ks.take j) K
   ·rw [hb,Bool.false_or] at hst;simp only [go_sem,seval,av,hl,hdj,ints_at ks hj',hwj];(with_reducible and_intros)<;>first|exact .dq|omega|skip
    refine ah.step () hj trivial ?_;simp only [go_sem,seval,hst]
   ·rw [hb,Bool.true_or] at hst;simp only [go_sem,seval,av,hl,hdj,ints_at ks hj',hwj];(with_reducible and_intros)<;>first|exact .dq|omega|skip
    refine ah.step () hj trivial ?_;simp only [go_sem,seval,hst]
  intro _ hdj _;have hdj:decide ((6:Int) < 6)=false:=hdj;have hy:lR (ks.take 6) K=true:=by rw [<- hl,List.take_length,hK];exact hin k hk
  rw [hy];simp only [go_sem,seval,av,hl,hdj];refine aC.walk (S:=Unit) 17 [0,4,5] [] (fun j _=>[(7,.int .i64 j),(3,.ref 800)]) (fun j _=>[(800,.own 3 ((tX k++sG k j).map aD.cells))]) (fun _ _=>True) () trivial ?_ ?_ ?_
  ·simp only [go_sem,seval]<;>simp [sG]
  ·intro w _ hw hdw hww _;have hdw:decide ((w:Int)<=16)=true:=decide_eq_true (by omega);have hnw:sG k (w+1)=sG k w++tE k w 3:=nW _ w;have hlw:=EO k w;simp only [go_sem,seval,hdw];refine aC.walk (S:=Unit) 3 [0,4,5,7] [] (fun j _=>[(8,.int .i64 j),(3,.ref 800)]) (fun j _=>[(800,.own 3 ((tX k++sG k w++tE k w j).map aD.cells))]) (fun _ _=>True) () trivial ?_ ?_ ?_
   ·simp only [go_sem,seval]<;>simp [tE]
   ·intro c _ hc hdc hwc _;have hdc:decide ((c:Int) < 3)=true:=hdc;have hnc:tE k w (c+1)=tE k w c++acc k w c:=nW _ c;have hlc:=GR k w c;have hR:=fT ⟨K,w,c⟩;simp only [aD.cells] at hR;simp only [acc,<- hK] at hnc;simp only [go_sem,seval,hdc];(with_reducible and_intros)<;>first|exact .dq|omega|skip
    refine aa.pure hR ?_;cases hb:aD.right ⟨K,w,c⟩
    ·rw [hb] at hnc;simp only [go_sem,seval,hwc];refine ah.step () hc trivial ?_;simp only [go_sem,seval,hnc]<;>simp
    ·rw [hb] at hnc;simp only [go_sem,seval,hwc,aJ,List.length_append];(with_reducible and_intros)<;>first|exact .dq|omega|skip
     refine ah.step () hc trivial ?_;simp only [go_sem,seval,hnc]<;>simp [aD.cells]
   ·intro _ hdc _;have hdc:decide ((3:Int) < 3)=false:=hdc;simp only [go_sem,seval,hdc,hww];refine ah.step () hw trivial ?_;simp only [go_sem,seval,hnw]<;>simp
  ·intro _ _ _;simp only [go_sem,seval,hwk];refine ah.step () hk trivial ?_;simp only [go_sem,seval,hnext]<;>simp
 ·intro _ _ _;simp only [go_sem,seval,gv]
def PR (x:aY):Bool:=x.bB.right&&bL x.cm
def DE (l:List aY):Bool:=l.all PR
theorem zS (l:List aY) (hl:l.length < 2 ^ 40):Abs.Spec Tryz.prog 262 [] [.sl 4 (l.map aY.cells)] [] (.bool (DE l)):=by
 refine bu 26 1 [.tmp 2] mixed Tryz.func262 ?_;simp only [go_sem,seval,aJ];refine aC.walk (S:=Unit) l.length [0] [] (fun i _=>[(3,.int .i64 i)]) (fun _ _=>[]) (fun i _=>DE (l.drop i)=DE l) () rfl ?_ ?_ ?_
 ·simp only [go_sem,seval]<;>simp
 ·intro i _ hi hdi hwi hI;have hm:=aG (c:=aY.cells) l hi;obtain ⟨x,hx⟩:=aH (l[i]);have hR:=fT x.bB;have hN:=dn x.cm;have hli:(i:Int) < (l.length:Int):=by omega
  rw [dN hi,<- hx] at hI;rw [<- hx] at hm;have hk:PR x=(aD.right ⟨x.kind,x.who,x.cur⟩&&bL x.cm):=rfl;simp only [DE,List.all_cons,hk] at hI;simp only [aY.cells] at hm;simp only [aD.cells,aY.bB] at hR;simp only [go_sem,seval,aJ,hdi,hm];(with_reducible and_intros)<;>first|exact .dq|omega|skip
  refine aa.pure hR ?_;cases b1:aD.right ⟨x.kind,x.who,x.cur⟩
  ·rw [b1] at hI;simp only [go_sem,seval,DE,<- hI,Bool.false_and]
  simp only [go_sem,seval,aJ,hm];(with_reducible and_intros)<;>first|exact .dq|omega|skip
  refine aa.pure hN ?_;cases b2:bL x.cm
  ·rw [b1,b2] at hI;simp only [go_sem,seval,DE,<- hI,Bool.false_and,Bool.and_false]
  rw [b1,b2,Bool.and_self,Bool.true_and] at hI;simp only [go_sem,seval,hwi];refine ah.step () hi hI ?_;simp only [go_sem,seval]
 ·intro _ hdx hI;rw [List.drop_length] at hI;simp only [go_sem,seval,aJ,hdx,<- hI];rfl
def bS (a b:aD) (n:Int):List aY:=[⟨a.kind,a.who,a.cur,-(if bL n then n else 0)⟩,⟨b.kind,b.who,b.cur,if bL n then n else 0⟩]
theorem J7 (a b:aD) (n:Int):Abs.Spec Tryz.prog 111 [] [.agg a.cells,.agg b.cells,.int .i64 n] [.own 4 ((bS a b n).map aY.cells)] (.ref 0):=by
 have hN:=dn n;have hw:bL n=true->IntKind.wrap .i64 (0-n) = -n:=fun h=>by have:=cg.1 h;rw [bn (by omega) (by omega)];omega
 simp only [aD.cells];refine bu 18 3 [.tmp 6] mixed Tryz.func111 ?_;simp only [go_sem,seval];refine aa.pure hN ?_;cases b1:bL n
 ·simp only [go_sem,seval,bS,b1]<;>simp;rfl
 ·simp only [go_sem,seval,bS,b1,hw b1]<;>simp
theorem iM (a b:aD) (n:Int):Abs.Spec Tryz.prog 111 [] [.agg a.cells,.agg b.cells,.int .i64 n] [] (.sl 4 ((bS a b n).map aY.cells)):=by
 refine Spec.frozen (J7 a b n) [0] rfl ?_;intro r;rcases r with _ | r<;>rfl
def pick {A:Type} (p:A->Bool) (f:A->Int) (xs:List A):List Int:=xs.flatMap fun x=>if p x then [f x] else []
theorem vI {A:Type} (p:A->Bool) (f:A->Int) {xs:List A} {i:Nat} (h:i < xs.length):pick p f (xs.take (i+1))=pick p f (xs.take i)++(if p xs[i] then [f xs[i]] else []):=gG _ h
theorem bW {A:Type} (p:A->Bool) (f:A->Int) (xs:List A):(pick p f xs).length<=xs.length:=by
 have:=fF (f:=fun x=>if p x then [f x] else []) (m:=1) (fun x=>by split<;>simp) xs;simpa [pick] using this
theorem lq {A:Type} {p:A->Bool} {f:A->Int} {xs:List A} {R:Int->Prop} (h:∀ x∈xs,R (f x)):∀ n∈pick p f xs,R n:=by
 intro n hn;obtain ⟨x,hx,hn⟩:=List.mem_flatMap.1 hn;split at hn
 ·obtain rfl:n=f x:=by simpa using hn
  exact h x hx
 ·cases hn
theorem fU {A:Type} (p:A->Bool) (f:A->Int) {xs:List A} {i:Nat} (h:i < xs.length):ints (pick p f (xs.take (i+1)))=ints (pick p f (xs.take i))++(if p xs[i] then [[.int .i64 (f xs[i])]] else []):=by
 rw [vI p f h];unfold ints;rw [List.map_append];split<;>rfl
theorem ad6 (l:List Int):(bL (az l)&&addN l==0)=(az l==0):=by
 unfold addN;cases h:bL (az l)
 ·have:az l≠0:=fun e=>by rw [e] at h;cases h
  simp [this]
 ·simp
theorem EK {l:List aY} (h:DE l=true):∀ x∈l,x.bB.right=true/\bL x.cm=true:=fun x hx=>by
 have:=List.all_eq_true.1 h x hx;simpa only [PR,cr] using this
def rC (c:Int) (l:List aY):List Int:=pick (fun x=>x.cur==c) aY.cm l
def CZ (l:List aY):Bool:=(List.range 3).all fun c=>az (rC c l)==0
def tA (l:List aY):Int:=if l.length=0 then 2 else if 64 < l.length then 5 else if DE l then (if CZ l then 0 else 12) else 3
theorem GV (l:List aY) (hl:l.length < 2 ^ 30):Abs.Spec Tryz.prog 231 [] [.sl 4 (l.map aY.cells)] [] (.int .i64 (tA l)):=by
 have hM:=zS l (by omega);refine bu 54 1 [.tmp 2] mixed Tryz.func231 ?_;simp only [go_sem,seval,aJ]
 by_cases h0:l.length=0
 ·have d:((l.length:Int)==0)=true:=by simp [h0]
  have e:tA l=2:=by simp [tA,h0]
  simp only [go_sem,seval,d,e]
 have d0:((l.length:Int)==0)=false:=by simpa using h0
 by_cases h1:64 < l.length
 ·have d:decide (64 < (l.length:Int))=true:=decide_eq_true (by omega);have e:tA l=5:=by simp only [tA];rw [if_neg h0,if_pos h1]
  simp only [go_sem,seval,d0,d,e,aJ]
 have d1:decide (64 < (l.length:Int))=false:=decide_eq_false (by omega);simp only [go_sem,seval,d0,d1,aJ];refine aa.pure hM ?_;cases b1:DE l
 ·have e:tA l=3:=by simp only [tA];rw [if_neg h0,if_neg h1,b1];rfl
  simp only [go_sem,seval,e]
 have e:tA l=if CZ l then 0 else 12:=by simp only [tA];rw [if_neg h0,if_neg h1,b1];rfl
 have hmm:=EK b1;rw [e];clear e d0 d1 hM;simp only [go_sem,seval];refine aC.walk (S:=Unit) 3 [0] [] (fun i _=>[(3,.int .i64 i)]) (fun _ _=>[]) (fun i _=>∀ c < i,(az (rC (c:Nat) l)==0)=true) () (by simp) ?_ ?_ ?_
 ·simp only [go_sem,seval]<;>simp
 ·intro c _ hc hdc hwc hI;have hdc:decide ((c:Int) < 3)=true:=hdc;have hA:=cE (rC c l) (lq fun x hx=>oS (hmm x hx).2) (by have:=bW (fun x:aY=>x.cur==(c:Int)) aY.cm l;unfold rC;omega);have h0:=ad6 (rC c l);simp only [go_sem,seval,hdc,aJ];refine aC.walk (S:=Unit) l.length [0,3] [] (fun i _=>[(5,.int .i64 i),(4,.ref 688)]) (fun i _=>[(688,.own 1 (ints (rC c (l.take i))))]) (fun _ _=>True) () trivial ?_ ?_ ?_
  ·simp only [go_sem,seval]<;>simp [rC,pick,ints]
  ·intro i _ hi hdi hwi _;have hm:=aG (c:=aY.cells) l hi;have hs:ints (rC c (l.take (i+1)))=_:=fU (fun x:aY=>x.cur==(c:Int)) aY.cm hi;have hlen:=bW (fun x:aY=>x.cur==(c:Int)) aY.cm (l.take i);have hlt:(l.take i).length=i:=by simp;omega
   have hli:(i:Int) < (l.length:Int):=by omega
   have hlen:(rC c (l.take i)).length<=i:=by unfold rC;omega
   obtain ⟨x,hx⟩:=aH (l[i]);rw [<- hx] at hs hm;simp only [aY.cells] at hm;simp only [go_sem,seval,aJ,hdi,hm];(with_reducible and_intros)<;>first|exact .dq|omega|skip
   cases hb:x.cur==(c:Int)
   ·simp only [hb,fZ,if_false,if_true,List.append_nil] at hs;simp only [go_sem,seval,hwi];refine ah.step () hi trivial ?_;simp only [go_sem,seval,hs]<;>simp [rC]
   ·simp only [hb,fZ,if_false,if_true,List.append_nil] at hs;simp only [go_sem,seval,hwi,av,aJ,hm];(with_reducible and_intros)<;>first|exact .dq|omega|skip
    refine ah.step () hi trivial ?_;simp only [go_sem,seval,hs]<;>simp [rC]
  ·intro _ hdx _;simp only [go_sem,seval,hdx,aJ,List.take_length];refine aa.gen [] [] true (by simp) ?_;simp only [go_sem,seval];refine aU.intro hA ?_;cases b1:bL (az (rC c l))
   ·have:CZ l=false:=by
     rw [CZ,List.all_eq_false];exact ⟨c,List.mem_range.2 hc,by rw [b1] at h0;rw [<- h0];simp⟩
    simp only [go_sem,seval,b1,this]
   cases b2:addN (rC c l)==0
   ·have:CZ l=false:=by
     rw [CZ,List.all_eq_false];exact ⟨c,List.mem_range.2 hc,by rw [b1,b2] at h0;rw [<- h0];simp⟩
    simp only [go_sem,seval,b1,bne,b2,this]
   rw [b1,b2] at h0;simp only [go_sem,seval,b1,bne,b2,hwc];refine ah.step () hc ?_ ?_
   ·intro k hk;rcases Nat.lt_or_ge k c with h | h
    ·exact hI k h
    ·obtain rfl:k=c:=by omega
     exact h0.symm
   ·simp only [go_sem,seval]
 ·intro _ hdc hI;have hdc:decide ((3:Int) < 3)=false:=hdc;have:CZ l=true:=List.all_eq_true.2 fun c hc=>hI c (List.mem_range.1 hc)
  simp only [go_sem,seval,hdc,this]
def dR (a:aD) (l:List aY):List Int:=pick (fun x=>x.bB.same a) aY.cm l
def F4 (a:aD) (n:Int):List aY:=if n==0 then [] else [⟨a.kind,a.who,a.cur,n⟩]
def AS (l:List aY) (ys:List aD):List aY:=ys.flatMap fun a=>F4 a (az (dR a l))
def sq (l:List aY) (ys:List aD):Bool:=ys.all fun a=>bL (az (dR a l))
def nL (l:List aY):Int:=if DE l then (if sq l gv then 0 else 1) else 3
def ji (l:List aY):List aY:=if nL l=0 then AS l gv else []
theorem T5 (a:aD) (n:Int):(F4 a n).length<=1:=by unfold F4;split<;>simp
theorem Jq (l:List aY) (ys:List aD):(AS l ys).length<=ys.length:=by
 have:=fF (f:=fun a=>F4 a (az (dR a l))) (m:=1) (fun a=>T5 _ _) ys;simpa [AS] using this
theorem KT (l:List aY) (hl:l.length < 2 ^ 29):Abs.Spec Tryz.prog 244 [] [.sl 4 (l.map aY.cells)] [.own 4 ((ji l).map aY.cells)] (.bI [.ref 0,.int .i64 (nL l)]):=by
 have hM:=zS l (by omega);have hAll:=BD;refine bu 65 1 [.tmp 2,.tmp 3] mixed Tryz.func244 ?_;simp only [go_sem,seval];refine aa.pure hM ?_;cases b1:DE l
 ·have e:nL l=3:=by simp [nL,b1]
  have e2:ji l=[]:=by simp [ji,e]
  simp only [go_sem,seval,e,e2]<;>simp
 have e:nL l=if sq l gv then 0 else 1:=by simp [nL,b1]
 have e2:ji l=if sq l gv then AS l gv else []:=by simp only [ji,e];cases sq l gv<;>simp
 have hmm:=EK b1;have hal:=tY;rw [e,e2];clear e e2 hM;obtain ⟨ys,has⟩:=aH (gv);rw [<- has] at hAll hal |-;clear has;simp only [go_sem,seval];refine aa.gen [240] [] false (by simp) ?_;simp only [go_sem,seval];refine aU.intro hAll ?_;simp only [go_sem,seval,aJ];refine aC.walk (S:=Unit) ys.length [0,5] [256] (fun i _=>[(6,.int .i64 i),(4,.ref 1024)]) (fun i _=>[(1024,.own 4 ((AS l (ys.take i)).map aY.cells))]) (fun i _=>sq l (ys.drop i)=sq l ys) () rfl ?_ ?_ ?_
 ·simp only [go_sem,seval]<;>simp [AS]
 ·intro k _ hk hdk hwk hI;have hma:=aG (c:=aD.cells) ys hk;have hlk:(k:Int) < (ys.length:Int):=by omega
  have hnx:AS l (ys.take (k+1))=AS l (ys.take k)++_:=gG _ hk;have hjl:=Jq l (ys.take k);have hjt:(ys.take k).length=k:=by simp;omega
  obtain ⟨a,ha⟩:=aH (ys[k]);rw [dN hk,<- ha] at hI;simp only [sq,List.all_cons] at hI;rw [<- ha] at hma hnx;have hA:=cE (dR a l) (lq fun x hx=>oS (hmm x hx).2) (by have:=bW (fun x:aY=>x.bB.same a) aY.cm l;unfold dR;omega);simp only [aD.cells] at hma;simp only [go_sem,seval,hdk,aJ];refine aC.walk (S:=Unit) l.length [0,4,5,6] [256,1024] (fun i _=>[(8,.int .i64 i),(7,.ref 736)]) (fun i _=>[(736,.own 1 (ints (dR a (l.take i))))]) (fun _ _=>True) () trivial ?_ ?_ ?_
  ·simp only [go_sem,seval]<;>simp [dR,pick,ints]
  ·intro i _ hi hdi hwi _;have hm:=aG (c:=aY.cells) l hi;have hs:ints (dR a (l.take (i+1)))=ints (dR a (l.take i))++_:=fU (fun x:aY=>x.bB.same a) aY.cm hi;have hlen:=bW (fun x:aY=>x.bB.same a) aY.cm (l.take i);have hlt:(l.take i).length=i:=by simp;omega
   have hli:(i:Int) < (l.length:Int):=by omega
   have hlen:(dR a (l.take i)).length<=i:=by unfold dR;omega
   obtain ⟨x,hx⟩:=aH (l[i]);have hS:Abs.Spec Tryz.prog 27 [] [.agg [.int .i64 x.kind,.int .i64 x.who,.int .i64 x.cur],.agg [.int .i64 a.kind,.int .i64 a.who,.int .i64 a.cur]] [] (.bool (x.bB.same a)):=qu x.bB a;rw [<- hx] at hs hm;simp only [aY.cells] at hm;simp only [go_sem,seval,aJ,hdi,hm,hma];(with_reducible and_intros)<;>first|exact .dq|omega|skip
   refine aa.pure hS ?_;cases hb:x.bB.same a
   ·simp only [hb,fZ,if_false,if_true,List.append_nil] at hs;simp only [go_sem,seval,hwi];refine ah.step () hi trivial ?_;simp only [go_sem,seval,hs]
   ·simp only [hb,fZ,if_false,if_true,List.append_nil] at hs;simp only [go_sem,seval,hwi,av,aJ,hm];(with_reducible and_intros)<;>first|exact .dq|omega|skip
    refine ah.step () hi trivial ?_;simp only [go_sem,seval,hs]
  ·intro _ hdx _;simp only [go_sem,seval,hdx,aJ,List.take_length];refine aa.gen [] [] true (by simp) ?_;simp only [go_sem,seval];refine aU.intro hA ?_;cases b1:bL (az (dR a l))
   ·rw [b1,Bool.false_and] at hI;have:sq l ys=false:=hI.symm;simp only [go_sem,seval,b1,this]<;>simp
   rw [b1,Bool.true_and] at hI;have hn:addN (dR a l)=az (dR a l):=by simp [addN,b1]
   rw [hn];cases b2:az (dR a l)==0
   ·simp only [F4,b2] at hnx;simp only [go_sem,seval,b1,bne,b2,hwk,hma,aJ];(with_reducible and_intros)<;>first|exact .dq|omega|skip
    refine ah.step () hk hI ?_;simp only [go_sem,seval,hnx]<;>simp
   ·simp only [F4,b2] at hnx;simp only [go_sem,seval,b1,bne,b2,hwk];refine ah.step () hk hI ?_;simp only [go_sem,seval,hnx]<;>simp
 ·intro _ hdx hI;rw [List.drop_length] at hI;have:sq l ys=true:=hI.symm;simp only [go_sem,seval,hdx,aJ,this,List.take_length]<;>simp
theorem mP (l:List aY) (hl:l.length < 2 ^ 29):Abs.Spec Tryz.prog 244 [] [.sl 4 (l.map aY.cells)] [] (.bI [.sl 4 ((ji l).map aY.cells),.int .i64 (nL l)]):=by
 refine Spec.frozen (KT l hl) [0] rfl ?_;intro r;rcases r with _ | r<;>rfl
def nB (l:bz) (g:List aY) (a:aD):Int:=az (fj a l.bs :: dR a g)
def qT (a:aD) (n:Int):List bC:=if n==0 then [] else [⟨a.kind,a.who,a.cur,n⟩]
def HH (l:bz) (g:List aY) (ys:List aD):List bC:=ys.flatMap fun a=>qT a (nB l g a)
def AX (l:bz) (g:List aY) (ys:List aD):Bool:=ys.all fun a=>bL (nB l g a)
def vk (l:bz) (g:List aY) (ys:List aD):Bool:=ys.any fun a=>decide (nB l g a < a.floor)
def eT (l:bz) (id:Int) (g:List aY):Int:=
 if l.okB then (if within id 1 1099511627776 then (if id<=l.last then 18 else if tA g=0 then (if AX l g gv then (if vk l g gv then 13 else 0) else 1) else tA g) else 3) else 14
def gW (l:bz) (id:Int) (g:List aY):bz:=if eT l id g=0 then ⟨id,HH l g gv⟩ else ⟨0,[]⟩
theorem LC (a:aD) (n:Int):(qT a n).length<=1:=by unfold qT;split<;>simp
theorem M3 (l:bz) (g:List aY) (ys:List aD):(HH l g ys).length<=ys.length:=by
 have:=fF (f:=fun a=>qT a (nB l g a)) (m:=1) (fun a=>LC _ _) ys;simpa [HH] using this
theorem MW {g:List aY} (h:tA g=0):DE g=true/\CZ g=true/\g.length<=64:=by
 unfold tA at h;split at h
 ·cases h
 split at h
 ·cases h
 split at h
 ·split at h
  ·rename_i h1 h2 h3 h4;exact ⟨h3,h4,by omega⟩
  ·cases h
 ·cases h
theorem J2 (l:bz) (id:Int) (g:List aY) (hl:l.bs.length < 2 ^ 30) (hr:∀ b∈l.bs,b.cU) (hg:g.length < 2 ^ 29):Abs.Spec Tryz.prog 185 [] [.agg l.cells,.int .i64 id,.sl 4 (g.map aY.cells)] [.own 4 ((gW l id g).bs.map bC.cells)] (.bI [.agg [.int .i64 (gW l id g).last,.ref 0],.int .i64 (eT l id g)]):=by
 have hL:=iL l hl hr;have hC:=GV g (by omega);have hAll:=BD;have hO:=fun a=>gV l a hl
 have hor:=fun a=>pJ (a:=a) hr
 simp only [bz.cells,aD.cells] at hL hO |-;refine bu 116 3 [.cell 6 36,.tmp 7] mixed Tryz.func185 ?_;simp only [go_sem,seval];refine aa.pure hL ?_;cases b1:l.okB
 ·have e:eT l id g=14:=by simp [eT,b1]
  simp only [go_sem,seval,gW,e]<;>simp
 cases b2:within id 1 1099511627776
 ·have e:eT l id g=3:=by simp [eT,b1,b2]
  simp only [within,Bool.and_eq_false_iff,decide_eq_false_iff_not] at b2
  by_cases h:id < 1
  ·have d:decide (id < 1)=true:=decide_eq_true h;simp only [go_sem,seval,d,gW,e]<;>simp
  ·have d:decide (id < 1)=false:=decide_eq_false h;have d2:decide (1099511627776 < id)=true:=decide_eq_true (by omega);simp only [go_sem,seval,d,d2,gW,e]<;>simp
 have d1:decide (id < 1)=false:=by simp only [within,cr,decide_eq_true_eq] at b2;exact decide_eq_false (by omega)
 have d2:decide (1099511627776 < id)=false:=by simp only [within,cr,decide_eq_true_eq] at b2;exact decide_eq_false (by omega)
 by_cases h3:id<=l.last
 ·have d3:decide (id<=l.last)=true:=decide_eq_true h3;have e:eT l id g=18:=by simp [eT,b1,b2,h3]
  simp only [go_sem,seval,d1,d2,d3,gW,e]<;>simp
 have d3:decide (id<=l.last)=false:=decide_eq_false h3;simp only [go_sem,seval,d1,d2,d3];refine aa.pure hC ?_;cases b4:tA g==0
 ·have h4:tA g≠0:=by simpa using b4
  have e:eT l id g=tA g:=by simp [eT,b1,b2,h3,h4]
  have e2:gW l id g=⟨0,[]⟩:=by simp [gW,e,h4]
  simp only [go_sem,seval,bne,b4,e,e2]<;>simp
 have h4:tA g=0:=by simpa using b4
 have e:eT l id g=if AX l g gv then (if vk l g gv then 13 else 0) else 1:=by simp [eT,b1,b2,h3,h4]
 have hmm:=EK (MW h4).1;have hal:=tY;simp only [gW];rw [e];clear e hL hC b2 d1 d2 d3;obtain ⟨ys,has⟩:=aH (gv);rw [<- has] at hAll hal |-;clear has;simp only [go_sem,seval,bne,b4];refine aa.gen [704] [] false (by simp) ?_;simp only [go_sem,seval];refine aU.intro hAll ?_;simp only [go_sem,seval,aJ];refine aC.walk (S:=Unit) ys.length [2,3,6,8,10,12] [64,112,144,720] (fun i _=>[(13,.int .i64 i),(11,.bool (vk l g (ys.take i)))]) (fun i _=>[(176,.box [.int .i64 id,.ref 1792]),(1792,.own 4 ((HH l g (ys.take i)).map bC.cells))]) (fun i _=>AX l g (ys.drop i)=AX l g ys) () rfl ?_ ?_ ?_
 ·simp only [go_sem,seval]<;>simp [HH,vk]
 ·intro k _ hk hdk hwk hI;have hma:=aG (c:=aD.cells) ys hk;have hlk:(k:Int) < (ys.length:Int):=by omega
  have hnx:HH l g (ys.take (k+1))=HH l g (ys.take k)++_:=gG _ hk
  have hnf:vk l g (ys.take (k+1))=(vk l g (ys.take k)||decide (nB l g ys[k] < ys[k].floor)):=by
   simp only [vk];rw [List.take_succ_eq_append_getElem hk,List.any_append];simp
  have hjl:=M3 l g (ys.take k);have hjt:(ys.take k).length=k:=by simp;omega
  obtain ⟨a,ha⟩:=aH (ys[k]);rw [dN hk,<- ha] at hI;simp only [AX,List.all_cons] at hI;rw [<- ha] at hma hnx hnf
  have hA:=cE (fj a l.bs :: dR a g) (fun n hn=>by
   rcases List.mem_cons.1 hn with rfl | hn
   ·exact hor a
   ·exact lq (fun x hx=>oS (hmm x hx).2) n hn) (by have:=bW (fun x:aY=>x.bB.same a) aY.cm g;simp only [List.length_cons,dR];omega)
  have hF:=uz a;have hOa:=hO a;simp only [aD.cells] at hma hF hOa;clear hO;simp only [go_sem,seval,hdk,aJ,hma];(with_reducible and_intros)<;>first|exact .dq|omega|skip
  refine aa.pure hOa ?_;simp only [go_sem,seval,aJ];refine aC.walk (S:=Unit) g.length [2,3,6,8,10,11,12,13] [64,112,144,176,720,1792] (fun i _=>[(15,.int .i64 i),(14,.ref 1312)]) (fun i _=>[(1312,.own 1 (ints (fj a l.bs :: dR a (g.take i))))]) (fun _ _=>True) () trivial ?_ ?_ ?_
  ·simp only [go_sem,seval]<;>simp [dR,pick,ints]
  ·intro i _ hi hdi hwi _;have hm:=aG (c:=aY.cells) g hi;have hs:ints (dR a (g.take (i+1)))=ints (dR a (g.take i))++_:=fU (fun x:aY=>x.bB.same a) aY.cm hi;have hlen:=bW (fun x:aY=>x.bB.same a) aY.cm (g.take i);have hlt:(g.take i).length=i:=by simp;omega
   have hli:(i:Int) < (g.length:Int):=by omega
   have hlen:(fj a l.bs :: dR a (g.take i)).length<=i+1:=by simp only [List.length_cons,dR];omega
   obtain ⟨x,hx⟩:=aH (g[i]);rw [<- hx] at hs;have hs:ints (fj a l.bs :: dR a (g.take (i+1)))=ints (fj a l.bs :: dR a (g.take i))++(if x.bB.same a then [[.int .i64 x.cm]] else []):=congrArg (fun z:List (List D)=>([D.int .i64 (fj a l.bs)]:List D) :: z) hs;obtain ⟨L,hL⟩:=aH (fj a l.bs :: dR a (g.take i));have hS:Abs.Spec Tryz.prog 27 [] [.agg [.int .i64 x.kind,.int .i64 x.who,.int .i64 x.cur],.agg [.int .i64 a.kind,.int .i64 a.who,.int .i64 a.cur]] [] (.bool (x.bB.same a)):=qu x.bB a;rw [<- hL] at hs;rw [<- hx] at hm;rw [<- hL] at hlen |-;simp only [aY.cells] at hm;simp only [go_sem,seval,aJ,hdi,hm,hma];(with_reducible and_intros)<;>first|exact .dq|omega|skip
   refine aa.pure hS ?_;cases hb:x.bB.same a
   ·simp only [hb,fZ,if_false,if_true,List.append_nil] at hs;simp only [go_sem,seval,hwi];refine ah.step () hi trivial ?_;simp only [go_sem,seval,hs]<;>simp
   ·simp only [hb,fZ,if_false,if_true,List.append_nil] at hs;simp only [go_sem,seval,hwi,av,aJ,hm];(with_reducible and_intros)<;>first|exact .dq|omega|skip
    refine ah.step () hi trivial ?_;simp only [go_sem,seval,hs]<;>simp
  ·intro _ hdx _;simp only [go_sem,seval,hdx,aJ,List.take_length];refine aa.gen [] [] true (by simp) ?_;simp only [go_sem,seval];refine aU.intro hA ?_;have hS:az (fj a l.bs :: dR a g)=nB l g a:=rfl;have hn:bL (nB l g a)=true->addN (fj a l.bs :: dR a g)=nB l g a:=fun h=>by simp [addN,hS,h]
   rw [hS];cases b1:bL (nB l g a)
   ·rw [b1,Bool.false_and] at hI;have:AX l g ys=false:=hI.symm;simp only [go_sem,seval,b1,this]<;>simp
   rw [b1,Bool.true_and] at hI;rw [hn b1];cases b3:vk l g (ys.take k)
   case true =>
    rw [b3,Bool.true_or] at hnf;cases b2:nB l g a==0
    ·simp only [qT,b2] at hnx;simp only [go_sem,seval,b1,b3,bne,b2,hwk,hma,aJ];(with_reducible and_intros)<;>first|exact .dq|omega|skip
     refine ah.step () hk hI ?_;simp only [go_sem,seval,hnx,hnf]<;>simp
    ·simp only [qT,b2] at hnx;simp only [go_sem,seval,b1,b3,bne,b2,hwk];refine ah.step () hk hI ?_;simp only [go_sem,seval,hnx,hnf]<;>simp
   rw [b3,Bool.false_or] at hnf;simp only [go_sem,seval,b1,b3,bne,hma,aJ];(with_reducible and_intros)<;>first|exact .dq|omega|skip
   refine aa.pure hF ?_;cases b2:nB l g a==0
   ·simp only [qT,b2] at hnx;simp only [go_sem,seval,b2,hwk,hma,aJ,bne];(with_reducible and_intros)<;>first|exact .dq|omega|skip
    refine ah.step () hk hI ?_;simp only [go_sem,seval,hnx,hnf]<;>simp
   ·simp only [qT,b2] at hnx;simp only [go_sem,seval,b2,bne,hwk];refine ah.step () hk hI ?_;simp only [go_sem,seval,hnx,hnf]<;>simp
 ·intro _ hdx hI;rw [List.drop_length] at hI;have:AX l g ys=true:=hI.symm;cases b5:vk l g ys
  ·simp only [go_sem,seval,hdx,aJ,this,List.take_length,b5]<;>simp
  ·simp only [go_sem,seval,hdx,aJ,this,List.take_length,b5]<;>simp
theorem qG (l:bz) (id:Int) (g:List aY) (hl:l.bs.length < 2 ^ 30) (hr:∀ b∈l.bs,b.cU) (hg:g.length < 2 ^ 29):Abs.Spec Tryz.prog 185 [] [.agg l.cells,.int .i64 id,.sl 4 (g.map aY.cells)] [] (.bI [.agg (gW l id g).cells,.int .i64 (eT l id g)]):=by
 refine Spec.frozen (J2 l id g hl hr hg) [0] rfl ?_;intro r;rcases r with _ | r<;>rfl
theorem nA (r:aq) (h:r.jt):Abs.Spec Tryz.prog 123 [] [.agg r.cells] [] (.agg r.cells):=by
 refine Spec.frozen (mS r h) [0,1,2] rfl ?_;intro r;rcases r with _ | _ | _ | r<;>rfl
theorem GO (r:aq) (h:r.jt):Abs.Spec Tryz.prog 123 [] [.agg r.cells] [.undef,.own 12 (r.ns.map ay.cells)] (.agg [.sl 3 (r.ms.map ak.cells),.ref 1,.sl 4 (r.xs.map au.cells)]):=by
 refine Spec.frozen (mS r h) [0,2] rfl ?_;intro r;rcases r with _ | _ | _ | r<;>rfl
theorem Ov (r:aq) (h:r.jt):Abs.Spec Tryz.prog 123 [] [.agg r.cells] [.own 3 (r.ms.map ak.cells)] (.agg [.ref 0,.sl 12 (r.ns.map ay.cells),.sl 4 (r.xs.map au.cells)]):=by
 refine Spec.frozen (mS r h) [1,2] rfl ?_;intro r;rcases r with _ | _ | _ | r<;>rfl
def pq {B:Type} (f:Nat->List B) (i:Nat):List B:=(List.range i).flatMap f
theorem jo {B:Type} (f:Nat->List B) (i:Nat):pq f (i+1)=pq f i++f i:=nW f i
theorem lF {B:Type} {f:Nat->List B} {m:Nat} (h:∀ a,(f a).length<=m) (i:Nat):(pq f i).length<=m*i:=Cp h i
theorem kW {B:Type} (f:Nat->List B):pq f 0=[]:=rfl
def aq.none:aq:=⟨[],[],[]⟩
def ju (r:aq) (w n:Int):Int:=if r.okB then (if ak.ok ⟨w,1,n⟩ then (if dQ r w then 11 else 0) else 3) else 14
def Ku (r:aq) (m:ak) (i:Nat):List ak:=(if dQ r ((i:Int)+1) then [ew r ((i:Int)+1)] else [])++(if (i:Int)+1==m.no then [m] else [])
def jX (r:aq) (w n:Int):aq:=if ju r w n=0 then ⟨pq (Ku r ⟨w,1,n⟩) 16,r.ns,r.xs⟩ else .none
theorem Up (r:aq) (m:ak) (i:Nat):(Ku r m i).length<=2:=by unfold Ku;split<;>split<;>simp
theorem JD (r:aq) (w n:Int) (h:r.jt):Abs.Spec Tryz.prog 102 [] [.agg r.cells,.int .i64 w,.int .i64 n] [.own 3 ((jX r w n).ms.map ak.cells)] (.bI [.agg [.ref 0,.sl 12 ((jX r w n).ns.map ay.cells),.sl 4 ((jX r w n).xs.map au.cells)],.int .i64 (ju r w n)]):=by
 have c1:=dL r h.small;have c2:=ug ⟨w,1,n⟩;have c3:=fun n=>ct r n h.small
 have c4:=nA r h;simp only [aq.cells] at c1 c3 c4 |-;simp only [ak.cells] at c2;refine bu 64 3 [.cell 6 29,.tmp 7] mixed Tryz.func102 ?_;simp only [go_sem,seval];(with_reducible and_intros)<;>first|exact .dq|omega|skip
 refine aa.pure c1 ?_;cases b1:r.okB
 ·have e:ju r w n=14:=by simp [ju,b1]
  simp only [go_sem,seval,jX,e]<;>simp [aq.none]
 simp only [go_sem,seval];(with_reducible and_intros)<;>first|exact .dq|omega|skip
 refine aa.pure c2 ?_;cases b2:ak.ok ⟨w,1,n⟩
 ·have e:ju r w n=3:=by simp [ju,b1,b2]
  simp only [go_sem,seval,jX,e]<;>simp [aq.none]
 have c3w:=c3 w;obtain ⟨g,hg⟩:=aH (ew r w);rw [<- hg] at c3w;simp only [ak.cells] at c3w;simp only [go_sem,seval];(with_reducible and_intros)<;>first|exact .dq|omega|skip
 refine aa.pure c3w ?_;cases b3:dQ r w
 case true =>
  have e:ju r w n=11:=by simp [ju,b1,b2,b3]
  simp only [go_sem,seval,jX,e,b3]<;>simp [aq.none]
 have e:ju r w n=0:=by simp [ju,b1,b2,b3]
 simp only [go_sem,seval,jX,e,b3];(with_reducible and_intros)<;>first|exact .dq|omega|skip
 refine aa.pure c4 ?_;clear c1 c2 c4 c3w hg;simp only [go_sem,seval];(with_reducible and_intros)<;>first|exact .dq|omega|skip
 refine aC.walk (S:=Unit) 16 [1,3,6,8,11] [64,112,144] (fun i _=>[(12,.int .i64 ((i:Int)+1))]) (fun i _=>[(192,.box [.ref 992,.sl 12 (r.ns.map ay.cells),.sl 4 (r.xs.map au.cells)]),(992,.own 3 ((pq (Ku r ⟨w,1,n⟩) i).map ak.cells))]) (fun _ _=>True) () trivial ?_ ?_ ?_
 ·simp only [go_sem,seval,kW]<;>simp
 ·intro i _ hi _ _ _;have hd:decide ((i:Int)+1<=16)=true:=decide_eq_true (by omega);have hw:IntKind.wrap .i64 ((i:Int)+1+1)=((i+1:Nat):Int)+1:=by rw [bn (by omega) (by omega)];omega
  have hs:=jo (Ku r ⟨w,1,n⟩) i;have hl:=lF (Up r ⟨w,1,n⟩) i;obtain ⟨L,hL⟩:=aH (pq (Ku r ⟨w,1,n⟩) i);obtain ⟨k,hk⟩:=aH ((i:Int)+1);have c3k:=c3 k;obtain ⟨g,hg⟩:=aH (ew r k);rw [<- hL] at hs hl |-;simp only [Ku,<- hk] at hs;rw [<- hg] at c3k hs;rw [<- hk] at hd hw |-;simp only [ak.cells] at c3k;clear c3 hL;simp only [go_sem,seval,hd];(with_reducible and_intros)<;>first|exact .dq|omega|skip
  refine aa.pure c3k ?_
  cases q1:dQ r k<;>cases q2:k==w<;>(
   simp only [q1,q2] at hs;simp only [go_sem,seval,q1,q2,hw,aJ,List.length_append];(with_reducible and_intros)<;>first|exact .dq|omega|skip
   try refine ah.step () hi trivial ?_
   try simp only [go_sem,seval,hs])
  all_goals simp
 ·intro _ _ _;simp only [go_sem,seval]<;>simp
theorem HG (r:aq) (w n:Int) (h:r.jt):Abs.Spec Tryz.prog 102 [] [.agg r.cells,.int .i64 w,.int .i64 n] [] (.bI [.agg (jX r w n).cells,.int .i64 (ju r w n)]):=by
 refine Spec.frozen (JD r w n h) [0] rfl ?_;intro r;rcases r with _ | r<;>rfl
def ay.bare (i:ay):ay:={ i with set:=0,aX:=0 }
def nh (r:aq) (i:ay):Int:=if r.okB then (if i.bare.ok then (if br r i.no then 11 else 0) else 3) else 14
def HW (r:aq) (m:ay) (i:Nat):List ay:=(if br r ((i:Int)+1) then [bf r ((i:Int)+1)] else [])++(if (i:Int)+1==m.no then [m] else [])
def oD (r:aq) (i:ay):aq:=if nh r i=0 then ⟨r.ms,pq (HW r i.bare) 8,r.xs⟩ else .none
theorem TI (r:aq) (m:ay) (i:Nat):(HW r m i).length<=2:=by unfold HW;split<;>split<;>simp
theorem M7 (r:aq) (x:ay) (h:r.jt):Abs.Spec Tryz.prog 103 [] [.agg r.cells,.agg x.cells] [.own 12 ((oD r x).ns.map ay.cells)] (.bI [.agg [.sl 3 ((oD r x).ms.map ak.cells),.ref 0,.sl 4 ((oD r x).xs.map au.cells)],.int .i64 (nh r x)]):=by
 have c1:=dL r h.small;have c2:=sQ x.bare;have c3:=fun n=>dz r n h.small
 have c4:=nA r h;simp only [aq.cells] at c1 c3 c4 |-;simp only [ay.cells,ay.bare] at c2;refine bu 62 2 [.cell 4 29,.tmp 5] mixed Tryz.func103 ?_;simp only [go_sem,seval,ay.cells];(with_reducible and_intros)<;>first|exact .dq|omega|skip
 refine aa.pure c1 ?_;cases b1:r.okB
 ·have e:nh r x=14:=by simp [nh,b1]
  simp only [go_sem,seval,oD,e]<;>simp [aq.none]
 simp only [go_sem,seval];(with_reducible and_intros)<;>first|exact .dq|omega|skip
 refine aa.pure c2 ?_;cases b2:x.bare.ok
 ·have e:nh r x=3:=by simp [nh,b1,b2]
  simp only [ay.bare] at b2;simp only [go_sem,seval,b2,oD,e]<;>simp [aq.none]
 have b2':=b2;simp only [ay.bare] at b2';have c3w:=c3 x.no;obtain ⟨g,hg⟩:=aH (bf r x.no);rw [<- hg] at c3w;simp only [ay.cells] at c3w;simp only [go_sem,seval,b2'];(with_reducible and_intros)<;>first|exact .dq|omega|skip
 refine aa.pure c3w ?_;cases b3:br r x.no
 case true =>
  have e:nh r x=11:=by simp [nh,b1,b2,b3]
  simp only [go_sem,seval,oD,e,b3]<;>simp [aq.none]
 have e:nh r x=0:=by simp [nh,b1,b2,b3]
 simp only [go_sem,seval,oD,e,b3];(with_reducible and_intros)<;>first|exact .dq|omega|skip
 refine aa.pure c4 ?_;clear c1 c2 c4 c3w hg;simp only [go_sem,seval];(with_reducible and_intros)<;>first|exact .dq|omega|skip
 refine aC.walk (S:=Unit) 8 [2,3,4,8] [48,64,80] (fun i _=>[(9,.int .i64 ((i:Int)+1))]) (fun i _=>[(144,.box [.sl 3 (r.ms.map ak.cells),.ref 960,.sl 4 (r.xs.map au.cells)]),(960,.own 12 ((pq (HW r x.bare) i).map ay.cells))]) (fun _ _=>True) () trivial ?_ ?_ ?_
 ·simp only [go_sem,seval,kW]<;>simp
 ·intro i _ hi _ _ _;have hd:decide ((i:Int)+1<=8)=true:=decide_eq_true (by omega);have hw:IntKind.wrap .i64 ((i:Int)+1+1)=((i+1:Nat):Int)+1:=by rw [bn (by omega) (by omega)];omega
  have hs:=jo (HW r x.bare) i;have hl:=lF (TI r x.bare) i;obtain ⟨L,hL⟩:=aH (pq (HW r x.bare) i);obtain ⟨k,hk⟩:=aH ((i:Int)+1);have c3k:=c3 k;obtain ⟨g,hg⟩:=aH (bf r k);rw [<- hL] at hs hl |-;simp only [HW,<- hk,ay.bare] at hs;rw [<- hg] at c3k hs;rw [<- hk] at hd hw |-;simp only [ay.cells] at c3k;clear c3 hL;simp only [go_sem,seval,hd];(with_reducible and_intros)<;>first|exact .dq|omega|skip
  refine aa.pure c3k ?_
  cases q1:br r k<;>cases q2:k==x.no<;>(
   simp only [q1,q2] at hs;simp only [go_sem,seval,q1,q2,hw,aJ,List.length_append];(with_reducible and_intros)<;>first|exact .dq|omega|skip
   try refine ah.step () hi trivial ?_
   try simp only [go_sem,seval,hs,ay.bare,ay.cells])
  all_goals simp [ay.cells]
 ·intro _ _ _;simp only [go_sem,seval]<;>simp
theorem JL (r:aq) (x:ay) (h:r.jt):Abs.Spec Tryz.prog 103 [] [.agg r.cells,.agg x.cells] [] (.bI [.agg (oD r x).cells,.int .i64 (nh r x)]):=by
 refine Spec.frozen (M7 r x h) [0] rfl ?_;intro r;rcases r with _ | r<;>rfl
def mz (r:aq) (n:Int):au:=fX au.a n ⟨0,0,0,0⟩ r.xs
def ni (r:aq) (a:au):Int:=if r.okB then (if a.ok&&!(jN r a.a&&!((mz r a.a).b==a.b)) then 0 else 3) else 14
def K4 (r:aq) (a:au) (i:Nat):List au:=if (i:Int)+1==a.a then [a] else if jN r ((i:Int)+1) then [mz r ((i:Int)+1)] else []
def oG (r:aq) (a:au):aq:=if ni r a=0 then ⟨r.ms,r.ns,pq (K4 r a) 6⟩ else .none
theorem Un (r:aq) (m:au) (i:Nat):(K4 r m i).length<=1:=by
 unfold K4;split
 ·simp
 ·split<;>simp
theorem Mg (r:aq) (a:au) (h:r.jt):Abs.Spec Tryz.prog 104 [] [.agg r.cells,.agg a.cells] [.own 4 ((oG r a).xs.map au.cells)] (.bI [.agg [.sl 3 ((oG r a).ms.map ak.cells),.sl 12 ((oG r a).ns.map ay.cells),.ref 0],.int .i64 (ni r a)]):=by
 have c1:=dL r h.small;have c2:=qc a;have c3:∀ n,Abs.Spec Tryz.prog 95 [] [.agg r.cells,.int .i64 n] [] (.bI [.agg (mz r n).cells,.bool (jN r n)]):=fun n=>lg r n h.small
 have c4:=nA r h;simp only [aq.cells] at c1 c3 c4 |-;simp only [au.cells] at c2;have c3w:=c3 a.a;obtain ⟨g,hg⟩:=aH (mz r a.a);rw [<- hg] at c3w;simp only [au.cells] at c3w;refine bu 68 2 [.cell 4 29,.tmp 5] mixed Tryz.func104 ?_;simp only [go_sem,seval,au.cells];(with_reducible and_intros)<;>first|exact .dq|omega|skip
 refine aa.pure c1 ?_;cases b1:r.okB
 ·have e:ni r a=14:=by simp [ni,b1]
  simp only [go_sem,seval,oG,e]<;>simp [aq.none]
 simp only [go_sem,seval];(with_reducible and_intros)<;>first|exact .dq|omega|skip
 refine aa.pure c3w ?_;simp only [go_sem,seval];(with_reducible and_intros)<;>first|exact .dq|omega|skip
 refine aa.pure c2 ?_;cases b2:a.ok
 ·have e:ni r a=3:=by simp [ni,b1,b2]
  simp only [go_sem,seval,oG,e]<;>simp [aq.none]
 cases b3:jN r a.a&&!(g.b==a.b)
 case true =>
  have e:ni r a=3:=by simp only [ni,b1,b2,<- hg,b3];rfl
  simp only [cr,Bool.not_eq_true'] at b3;simp only [go_sem,seval,oG,e,b3.1,b3.2,bne,Bool.not_false]<;>simp [aq.none]
 have e:ni r a=0:=by simp only [ni,b1,b2,<- hg,b3];rfl
 have hfin:∀ {Q:Prop},Q->Q:=fun q=>q
 cases q1:jN r a.a<;>cases q2:g.b==a.b<;>(try (rw [q1,q2] at b3;exact absurd b3 (by decide)))
 all_goals simp only [go_sem,seval,oG,e,q1,q2,bne]
 all_goals (with_reducible and_intros)<;>first|exact .dq|omega|skip
 all_goals refine aa.pure c4 ?_
 all_goals clear c1 c2 c4 c3w hg q1 q2 b3
 all_goals simp only [go_sem,seval]
 all_goals (with_reducible and_intros)<;>first|exact .dq|omega|skip
 all_goals refine aC.walk (S:=Unit) 6 [2,3,4,8] [48,64,80] (fun i _=>[(9,.int .i64 ((i:Int)+1))]) (fun i _=>[(144,.box [.sl 3 (r.ms.map ak.cells),.sl 12 (r.ns.map ay.cells),.ref 1056]),(1056,.own 4 ((pq (K4 r a) i).map au.cells))]) (fun _ _=>True) () trivial ?_ ?_ ?_
 all_goals try (simp only [go_sem,seval,kW]<;>simp;done)
 all_goals
  intro i _ hi _ _ _;have hd:decide ((i:Int)+1<=6)=true:=decide_eq_true (by omega);have hw:IntKind.wrap .i64 ((i:Int)+1+1)=((i+1:Nat):Int)+1:=by rw [bn (by omega) (by omega)];omega
  have hs:=jo (K4 r a) i;have hl:=lF (Un r a) i;obtain ⟨L,hL⟩:=aH (pq (K4 r a) i);obtain ⟨k,hk⟩:=aH ((i:Int)+1);have c3k:=c3 k;obtain ⟨g,hg⟩:=aH (mz r k);rw [<- hL] at hs hl |-;simp only [K4,<- hk] at hs;rw [<- hg] at c3k hs;rw [<- hk] at hd hw |-;simp only [au.cells] at c3k;clear c3 hL;simp only [go_sem,seval,hd];(with_reducible and_intros)<;>first|exact .dq|omega|skip
  refine aa.pure c3k ?_
  cases q2:k==a.a<;>cases q1:jN r k<;>(
   simp only [q1,q2] at hs;simp only [go_sem,seval,q1,q2,hw,aJ,List.length_append];(with_reducible and_intros)<;>first|exact .dq|omega|skip
   try refine ah.step () hi trivial ?_
   try simp only [go_sem,seval,hs])
  all_goals simp
theorem JU (r:aq) (a:au) (h:r.jt):Abs.Spec Tryz.prog 104 [] [.agg r.cells,.agg a.cells] [] (.bI [.agg (oG r a).cells,.int .i64 (ni r a)]):=by
 refine Spec.frozen (Mg r a h) [0] rfl ?_;intro r;rcases r with _ | r<;>rfl
def xd {A:Type} (no:A->Int) (n:Int) (f:A->A):List A->List A
 | []=>[]
 | x :: r=>if no x=n then f x :: r else x :: xd no n f r
theorem Gl {A:Type} {no:A->Int} {n:Int} {f:A->A}:∀ {xs:List A} {i:Nat} (h:i < xs.length),(∀ j (hj:j < xs.length),j < i->no xs[j]≠n)->no xs[i]=n->xd no n f xs=xs.set i (f xs[i])
 | [],i,h,_,_=>by simp at h
 | x :: r,0,h,_,he=>by
  have he:no x=n:=he;simp [xd,he]
 | x :: r,i+1,h,hn,he=>by
  have h0:no x≠n:=hn 0 (by simp) (by omega);have h1:=Gl (f:=f) (xs:=r) (i:=i) (by simpa using h) (fun j hj hji=>hn (j+1) (by simpa using hj) (by omega)) he;simp only [xd,if_neg h0,h1,List.getElem_cons_succ,List.set_cons_succ]
theorem I8 {A:Type} {no:A->Int} {n:Int} {xs:List A} {i:Nat} (hI:∀ j (hj:j < xs.length),j < i->no xs[j]≠n) (h:i < xs.length) (hb:(no xs[i]==n)=false):∀ j (hj:j < xs.length),j < i+1->no xs[j]≠n:=by
 intro j hj hji;rcases Nat.lt_or_ge j i with h | h
 ·exact hI j hj h
 ·obtain rfl:j=i:=by omega
  simpa using hb
def xL (r:aq) (n p:Int):Int:=if r.okB then (if br r n then (if within p 1 1073741824 then 0 else 3) else 10) else 14
def ay.told (p:Int) (x:ay):ay:={ x with set:=p }
def xO (r:aq) (n p:Int):aq:=if xL r n p=0 then ⟨r.ms,xd ay.no n (ay.told p) r.ns,r.xs⟩ else .none
theorem MA (r:aq) (n p:Int) (h:r.jt):Abs.Spec Tryz.prog 188 [] [.agg r.cells,.int .i64 n,.int .i64 p] [.own 12 ((xO r n p).ns.map ay.cells)] (.bI [.agg [.sl 3 ((xO r n p).ms.map ak.cells),.ref 0,.sl 4 ((xO r n p).xs.map au.cells)],.int .i64 (xL r n p)]):=by
 have c1:=dL r h.small;have c4:=GO r h;have c5:=bA p 1 1073741824;have hl:=h.2.1;simp only [aq.cells] at c1 c4 |-;refine bu 43 3 [.cell 6 29,.tmp 7] mixed Tryz.func188 ?_;simp only [go_sem,seval];(with_reducible and_intros)<;>first|exact .dq|omega|skip
 refine aa.pure c1 ?_;cases b1:r.okB
 ·have e:xL r n p=14:=by simp [xL,b1]
  simp only [go_sem,seval,xO,e]<;>simp [aq.none]
 have e:xL r n p=if br r n then (if within p 1 1073741824 then 0 else 3) else 10:=by simp [xL,b1]
 simp only [xO];rw [e];clear e c1;simp only [go_sem,seval];(with_reducible and_intros)<;>first|exact .dq|omega|skip
 refine aa.gen [] [] false (by simp) ?_;simp only [go_sem,seval];refine aU.intro c4 ?_;simp only [go_sem,seval];refine aC.walk (S:=Unit) r.ns.length [1,2,6,8] [112,144,257] (fun i _=>[(9,.int .i64 i)]) (fun _ _=>[]) (fun i _=>∀ j (hj:j < r.ns.length),j < i->r.ns[j].no≠n) () (by intros;omega) ?_ ?_ ?_
 ·simp only [go_sem,seval]<;>simp
 ·intro i _ hi hdi hwi hI;have hm:=aG (c:=ay.cells) r.ns hi;have hli:(i:Int) < (r.ns.length:Int):=by omega
  obtain ⟨x,hx⟩:=aH (r.ns[i]);have hnext:=I8 hI hi;rw [<- hx] at hm hnext;simp only [ay.cells] at hm;simp only [go_sem,seval,aJ,hdi,hm];(with_reducible and_intros)<;>first|exact .dq|omega|skip
  cases b2:x.no==n
  ·simp only [go_sem,seval,hwi];refine ah.step () hi (hnext b2) ?_;simp only [go_sem,seval]
  have hxn:r.ns[i].no=n:=by rw [<- hx];simpa using b2
  obtain ⟨g1,g2⟩:=jg (z:=ay.zero) hi hI hxn;have hu:=Gl (f:=ay.told p) hi hI hxn;have e1:br r n=true:=by simp [br,g2]
  rw [e1];simp only [go_sem,seval];refine aa.pure c5 ?_;cases b3:within p 1 1073741824
  ·simp only [go_sem,seval]<;>simp [aq.none]
  rw [hu,<- hx];simp only [go_sem,seval,aJ,hm];(with_reducible and_intros)<;>first|exact .dq|omega|skip
  all_goals simp [ay.told,List.map_set]
 ·intro _ hdx hI;obtain ⟨g1,g2⟩:=gK (z:=ay.zero) (fun j hj=>hI j hj hj);have e1:br r n=false:=by simp [br,g2]
  rw [e1];simp only [go_sem,seval,aJ,hdx]<;>simp [aq.none]
theorem Lb (r:aq) (n p:Int) (h:r.jt):Abs.Spec Tryz.prog 188 [] [.agg r.cells,.int .i64 n,.int .i64 p] [] (.bI [.agg (xO r n p).cells,.int .i64 (xL r n p)]):=by
 refine Spec.frozen (MA r n p h) [0] rfl ?_;intro r;rcases r with _ | r<;>rfl
def DH (r:aq) (n p:Int):Int:=if r.okB then (if dQ r n then (if within p 1 3 then 0 else 3) else 10) else 14
def ak.put (p:Int) (x:ak):ak:={ x with state:=p }
def l6 (r:aq) (n p:Int):aq:=if DH r n p=0 then ⟨xd ak.no n (ak.put p) r.ms,r.ns,r.xs⟩ else .none
theorem Pe (r:aq) (n p:Int) (h:r.jt):Abs.Spec Tryz.prog 201 [] [.agg r.cells,.int .i64 n,.int .i64 p] [.own 3 ((l6 r n p).ms.map ak.cells)] (.bI [.agg [.ref 0,.sl 12 ((l6 r n p).ns.map ay.cells),.sl 4 ((l6 r n p).xs.map au.cells)],.int .i64 (DH r n p)]):=by
 have c1:=dL r h.small;have c4:=Ov r h;have c5:=bA p 1 3;have hl:=h.1;simp only [aq.cells] at c1 c4 |-;refine bu 43 3 [.cell 6 29,.tmp 7] mixed Tryz.func201 ?_;simp only [go_sem,seval];(with_reducible and_intros)<;>first|exact .dq|omega|skip
 refine aa.pure c1 ?_;cases b1:r.okB
 ·have e:DH r n p=14:=by simp [DH,b1]
  simp only [go_sem,seval,l6,e]<;>simp [aq.none]
 have e:DH r n p=if dQ r n then (if within p 1 3 then 0 else 3) else 10:=by simp [DH,b1]
 simp only [l6];rw [e];clear e c1;simp only [go_sem,seval];(with_reducible and_intros)<;>first|exact .dq|omega|skip
 refine aa.gen [] [] false (by simp) ?_;simp only [go_sem,seval];refine aU.intro c4 ?_;simp only [go_sem,seval];refine aC.walk (S:=Unit) r.ms.length [1,2,6,8] [112,144,256] (fun i _=>[(9,.int .i64 i)]) (fun _ _=>[]) (fun i _=>∀ j (hj:j < r.ms.length),j < i->r.ms[j].no≠n) () (by intros;omega) ?_ ?_ ?_
 ·simp only [go_sem,seval]<;>simp
 ·intro i _ hi hdi hwi hI;have hm:=aG (c:=ak.cells) r.ms hi;have hli:(i:Int) < (r.ms.length:Int):=by omega
  obtain ⟨x,hx⟩:=aH (r.ms[i]);have hnext:=I8 hI hi;rw [<- hx] at hm hnext;simp only [ak.cells] at hm;simp only [go_sem,seval,aJ,hdi,hm];(with_reducible and_intros)<;>first|exact .dq|omega|skip
  cases b2:x.no==n
  ·simp only [go_sem,seval,hwi];refine ah.step () hi (hnext b2) ?_;simp only [go_sem,seval]
  have hxn:r.ms[i].no=n:=by rw [<- hx];simpa using b2
  obtain ⟨g1,g2⟩:=jg (z:=ak.zero) hi hI hxn;have hu:=Gl (f:=ak.put p) hi hI hxn;have e1:dQ r n=true:=by simp [dQ,g2]
  rw [e1];simp only [go_sem,seval];refine aa.pure c5 ?_;cases b3:within p 1 3
  ·simp only [go_sem,seval]<;>simp [aq.none]
  rw [hu,<- hx];simp only [go_sem,seval,aJ,hm];(with_reducible and_intros)<;>first|exact .dq|omega|skip
  all_goals simp [ak.put,List.map_set]
 ·intro _ hdx hI;obtain ⟨g1,g2⟩:=gK (z:=ak.zero) (fun j hj=>hI j hj hj);have e1:dQ r n=false:=by simp [dQ,g2]
  rw [e1];simp only [go_sem,seval,aJ,hdx]<;>simp [aq.none]
theorem CP (r:aq) (n p:Int) (h:r.jt):Abs.Spec Tryz.prog 201 [] [.agg r.cells,.int .i64 n,.int .i64 p] [] (.bI [.agg (l6 r n p).cells,.int .i64 (DH r n p)]):=by
 refine Spec.frozen (Pe r n p h) [0] rfl ?_;intro r;rcases r with _ | r<;>rfl
def pH {A:Type} (f:A->A) (xs:List A) (i:Nat):List A:=(xs.take i).map f++xs.drop i
theorem IL {A:Type} (f:A->A) (xs:List A):pH f xs 0=xs:=by simp [pH]
theorem Gj {A:Type} (f:A->A) (xs:List A):pH f xs xs.length=xs.map f:=by simp [pH]
theorem uH {A:Type} (f:A->A) (xs:List A) (i:Nat):(pH f xs i).length=xs.length:=by simp [pH];omega
theorem Kh {A:Type} (f:A->A) {xs:List A} {i:Nat} (h:i < xs.length):(pH f xs i)[i]'(by rw [uH];exact h)=xs[i]:=by
 have hl:((xs.take i).map f).length=i:=by simp;omega
 simp only [pH];rw [List.getElem_append_right (by omega)];simp [Nat.min_eq_left (Nat.le_of_lt h)]
theorem FA {A:Type} (f:A->A) {xs:List A} {i:Nat} (h:i < xs.length):(pH f xs i).set i (f xs[i])=pH f xs (i+1):=by
 have hl:((xs.take i).map f).length=i:=by simp;omega
 simp only [pH];rw [List.set_append_right _ _ (by omega),hl,Nat.sub_self,List.drop_eq_getElem_cons h,List.set_cons_zero,List.take_succ_eq_append_getElem h,List.map_append,List.append_assoc];rfl
theorem R1 {A:Type} (f:A->A) {xs:List A} {i:Nat} (h:i < xs.length) (hf:f xs[i]=xs[i]):pH f xs (i+1)=pH f xs i:=by
 rw [<- FA f h,hf]
 conv=>lhs;rw [<- Kh f h]
 exact List.set_getElem_self _
def ay.qC (x:ay):ay:=if x.set==0 then x else { x with aX:=x.set,set:=0 }
def Mm (r:aq):aq:=⟨r.ms,r.ns.map ay.qC,r.xs⟩
theorem L6 (r:aq) (h:r.jt):Abs.Spec Tryz.prog 196 [] [.agg r.cells] [.own 12 (r.ns.map ay.qC |>.map ay.cells)] (.agg [.sl 3 (r.ms.map ak.cells),.ref 0,.sl 4 (r.xs.map au.cells)]):=by
 have c4:=GO r h;have hl:=h.2.1;simp only [aq.cells] at c4 |-;refine bu 38 1 [.cell 2 29] mixed Tryz.func196 ?_;simp only [go_sem,seval];(with_reducible and_intros)<;>first|exact .dq|omega|skip
 refine aa.gen [] [] false (by simp) ?_;simp only [go_sem,seval];refine aU.intro c4 ?_;simp only [go_sem,seval];(with_reducible and_intros)<;>first|exact .dq|omega|skip
 refine aC.walk (S:=Unit) r.ns.length [2,3] [48] (fun i _=>[(4,.int .i64 i)]) (fun i _=>[(64,.box [.sl 3 (r.ms.map ak.cells),.ref 368,.sl 4 (r.xs.map au.cells)]),(368,.own 12 ((pH ay.qC r.ns i).map ay.cells))]) (fun _ _=>True) () trivial ?_ ?_ ?_
 ·simp only [go_sem,seval,IL]<;>simp
 ·intro i _ hi hdi hwi _;have hlen:=uH ay.qC r.ns i;have hi2:i < (pH ay.qC r.ns i).length:=by omega
  have hm:=aG (c:=ay.cells) (pH ay.qC r.ns i) hi2;have hat:=Kh ay.qC hi;have hset:=FA ay.qC hi;have hsame:=R1 ay.qC hi;have hli:(i:Int) < (r.ns.length:Int):=by omega
  obtain ⟨x,hx⟩:=aH (r.ns[i]);rw [hat] at hm;rw [<- hx] at hm hset hsame;obtain ⟨M,hM⟩:=aH (pH ay.qC r.ns i);rw [<- hM] at hm hset hsame hlen |-;simp only [ay.cells] at hm;simp only [go_sem,seval,aJ,hlen,hdi,hm];(with_reducible and_intros)<;>first|exact .dq|omega|skip
  cases b2:x.set==0
  ·have hset:M.set i { x with aX:=x.set,set:=0 }=pH ay.qC r.ns (i+1):=by rw [<- hset];simp only [ay.qC,b2];rfl
   have hsa:∀ Z,((M.map ay.cells).set i Z).getD i []=Z:=fun Z=>by simp [hlen,hi]
   simp only [go_sem,seval,bne,b2,aJ,hlen,hm,hwi,hsa];(with_reducible and_intros)<;>first|exact .dq|omega|skip
   all_goals first
    | (simp only [List.length_set,aJ];omega)
    | (refine ah.step () hi trivial ?_
       simp only [go_sem,seval,<- hset,List.map_set,List.set_set,hsa])
  ·have hsame:=hsame (by simp [ay.qC,b2]);simp only [go_sem,seval,bne,b2,hwi];refine ah.step () hi trivial ?_;simp only [go_sem,seval,hsame]
 ·intro _ hdx _;have hlen:=uH ay.qC r.ns r.ns.length;simp only [go_sem,seval,aJ,hlen,hdx,Gj]
theorem K0 (r:aq) (h:r.jt):Abs.Spec Tryz.prog 196 [] [.agg r.cells] [] (.agg (Mm r).cells):=by
 refine Spec.frozen (L6 r h) [0] rfl ?_;intro r;rcases r with _ | r<;>rfl
def gB (r:aq) (ss:List Int):List Int:=pick (fun m:ak=>lR ss m.state) ak.no r.ms
theorem Ko (r:aq) (ss:List Int) (h:r.jt) (hs:ss.length < 2 ^ 30):Abs.Spec Tryz.prog 197 [] [.agg r.cells,.sl 1 (ints ss)] [.own 1 (ints (gB r ss))] (.ref 0):=by
 have hl:=h.1;simp only [aq.cells];refine bu 47 2 [.tmp 4] mixed Tryz.func197 ?_;simp only [go_sem,seval];refine aC.walk (S:=Unit) r.ms.length [1,2] [48] (fun i _=>[(6,.int .i64 i),(5,.ref 736)]) (fun i _=>[(736,.own 1 (ints (pick (fun m:ak=>lR ss m.state) ak.no (r.ms.take i))))]) (fun _ _=>True) () trivial ?_ ?_ ?_
 ·simp only [go_sem,seval]<;>simp [pick,ints]
 ·intro i _ hi hdi hwi _;have hm:=aG (c:=ak.cells) r.ms hi;have hst:=fU (fun m:ak=>lR ss m.state) ak.no hi;have hlen:=bW (fun m:ak=>lR ss m.state) ak.no (r.ms.take i);have hlt:(r.ms.take i).length=i:=by simp;omega
  have hli:(i:Int) < (r.ms.length:Int):=by omega
  obtain ⟨L,hL⟩:=aH (pick (fun m:ak=>lR ss m.state) ak.no (r.ms.take i));obtain ⟨x,hx⟩:=aH (r.ms[i]);rw [<- hx] at hm hst;rw [<- hL] at hst hlen |-;simp only [ak.cells] at hm;simp only [go_sem,seval,aJ,hdi,av];refine aC.walk (S:=Unit) ss.length [1,2,5,6] [48,736] (fun k _=>[(8,.int .i64 k),(7,.bool (lR (ss.take k) x.state))]) (fun _ _=>[]) (fun _ _=>True) () trivial ?_ ?_ ?_
  ·simp only [go_sem,seval]<;>simp [lR]
  ·intro k _ hk hdk hwk _;have hst:=vg ss x.state hk;have hlk:(k:Int) < (ss.length:Int):=by omega
   cases hb:lR (ss.take k) x.state
   ·rw [hb,Bool.false_or] at hst;simp only [go_sem,seval,aJ,av,hdk,ints_at ss hk,hm,hwk];(with_reducible and_intros)<;>first|exact .dq|omega|skip
    refine ah.step () hk trivial ?_;simp only [go_sem,seval,hst]
   ·rw [hb,Bool.true_or] at hst;simp only [go_sem,seval,aJ,av,hdk,ints_at ss hk,hm,hwk];(with_reducible and_intros)<;>first|exact .dq|omega|skip
    refine ah.step () hk trivial ?_;simp only [go_sem,seval,hst]
  ·intro _ hdk _;cases b1:lR ss x.state
   ·rw [b1] at hst;simp only [go_sem,seval,av,aJ,hdk,List.take_length,b1,hwi];(with_reducible and_intros)<;>first|exact .dq|omega|skip
    refine ah.step () hi trivial ?_;simp only [go_sem,seval,hst]<;>simp
   ·rw [b1] at hst;simp only [go_sem,seval,av,aJ,hdk,List.take_length,b1,hm,hwi];(with_reducible and_intros)<;>first|exact .dq|omega|skip
    refine ah.step () hi trivial ?_;simp only [go_sem,seval,hst]<;>simp
 ·intro _ hdx _;simp only [go_sem,seval,av,aJ,hdx,List.take_length,gB]
theorem xy (r:aq) (ss:List Int) (h:r.jt) (hs:ss.length < 2 ^ 30):Abs.Spec Tryz.prog 197 [] [.agg r.cells,.sl 1 (ints ss)] [] (.sl 1 (ints (gB r ss))):=by
 refine Spec.frozen (Ko r ss h hs) [0] rfl ?_;intro r;rcases r with _ | r<;>rfl
def dU (w n:Int) (p:aB):Bool:=p.who==w&&p.inst==n
def posOf (w n:Int):List aB->aB
 | []=>⟨w,n,0,0⟩
 | p :: r=>if dU w n p then p else posOf w n r
theorem nU (b:aF) (w n:Int) (hb:b.small):Abs.Spec Tryz.prog 122 [] [.agg b.cells,.agg [.int .i64 w,.int .i64 n]] [] (.agg (posOf w n b.qs).cells):=by
 obtain ⟨h1,h2⟩:=hb;simp only [aF.cells];refine bu 42 2 [.cell 4 55] mixed Tryz.func122 ?_;simp only [go_sem,seval,aJ];refine aC.walk (S:=Unit) b.qs.length [2,3,4] [48,64,80] (fun i _=>[(5,.int .i64 i)]) (fun _ _=>[]) (fun i _=>posOf w n (b.qs.drop i)=posOf w n b.qs) () rfl ?_ ?_ ?_
 ·simp only [go_sem,seval]<;>simp
 ·intro i _ hi hdi hwi hI;have hm:=aG (c:=aB.cells) b.qs hi;have hli:(i:Int) < (b.qs.length:Int):=by omega
  obtain ⟨x,hx⟩:=aH (b.qs[i]);rw [dN hi,<- hx] at hI;rw [<- hx] at hm;simp only [posOf,dU] at hI;simp only [aB.cells] at hm;cases q1:x.who==w
  ·simp only [q1,Bool.false_and,fZ,if_false] at hI;simp only [go_sem,seval,aJ,hdi,hm,q1,hwi];(with_reducible and_intros)<;>first|exact .dq|omega|skip
   refine ah.step () hi hI ?_;simp only [go_sem,seval]
  cases q2:x.inst==n
  ·simp only [q1,q2,Bool.and_false,fZ,if_false] at hI;simp only [go_sem,seval,aJ,hdi,hm,q1,q2,hwi];(with_reducible and_intros)<;>first|exact .dq|omega|skip
   refine ah.step () hi hI ?_;simp only [go_sem,seval]
  simp only [q1,q2,Bool.and_self,if_true] at hI;rw [<- hI];simp only [go_sem,seval,aJ,hdi,hm,q1,q2];(with_reducible and_intros)<;>first|exact .dq|omega|skip
 ·intro _ hdx hI;rw [List.drop_length] at hI;rw [<- hI];simp only [go_sem,seval,aJ,hdx,posOf]
def Tb (n:Int) (t:aL):Bool:=t.no==n&&!t.off
def gQ (n:Int):List aL->Int
 | []=>-1
 | t :: r=>if Tb n t then 0 else if gQ n r < 0 then -1 else gQ n r+1
theorem Im {n:Int}:∀ {xs:List aL} {i:Nat} (h:i < xs.length),(∀ j (hj:j < xs.length),j < i->Tb n xs[j]=false)->Tb n xs[i]=true->gQ n xs=i
 | [],i,h,_,_=>by simp at h
 | x :: r,0,h,_,he=>by
  have he:Tb n x=true:=he;simp [gQ,he]
 | x :: r,i+1,h,hn,he=>by
  have h0:Tb n x=false:=hn 0 (by simp) (by omega);have h2:=Im (xs:=r) (i:=i) (by simpa using h) (fun j hj hji=>hn (j+1) (by simpa using hj) (by omega)) he;simp only [gQ,h0,h2];rw [if_neg (by simp),if_neg (by omega)];omega
theorem Fq {n:Int}:∀ {xs:List aL},(∀ j (hj:j < xs.length),Tb n xs[j]=false)->gQ n xs = -1
 | [],_=>rfl
 | x :: r,hn=>by
  have h0:Tb n x=false:=hn 0 (by simp);have h2:=Fq (xs:=r) (fun j hj=>hn (j+1) (by simpa using hj));simp [gQ,h0,h2]
theorem sv (b:aF) (n:Int) (hb:b.small):Abs.Spec Tryz.prog 189 [] [.agg b.cells,.int .i64 n] [] (.int .i64 (gQ n b.ts)):=by
 obtain ⟨h1,h2⟩:=hb;simp only [aF.cells];refine bu 31 2 [.tmp 4] mixed Tryz.func189 ?_;simp only [go_sem,seval,aJ];refine aC.walk (S:=Unit) b.ts.length [1,2] [48] (fun i _=>[(5,.int .i64 i)]) (fun _ _=>[]) (fun i _=>∀ j (hj:j < b.ts.length),j < i->Tb n b.ts[j]=false) () (by intros;omega) ?_ ?_ ?_
 ·simp only [go_sem,seval]<;>simp
 ·intro i _ hi hdi hwi hI;have hm:=aG (c:=aL.cells) b.ts hi;have hli:(i:Int) < (b.ts.length:Int):=by omega
  have hhit:=Im hi hI
  have hnext:Tb n b.ts[i]=false->∀ j (hj:j < b.ts.length),j < i+1->Tb n b.ts[j]=false:=fun h0 j hj hji=>by
   rcases Nat.lt_or_ge j i with h | h
   ·exact hI j hj h
   ·obtain rfl:j=i:=by omega
    exact h0
  obtain ⟨x,hx⟩:=aH (b.ts[i]);rw [<- hx] at hm hhit hnext;simp only [Tb] at hhit hnext;simp only [aL.cells] at hm;cases q1:x.no==n
  ·simp only [go_sem,seval,aJ,hdi,hm,q1,hwi];(with_reducible and_intros)<;>first|exact .dq|omega|skip
   refine ah.step () hi (hnext (by simp [q1])) ?_;simp only [go_sem,seval]
  cases q2:x.off
  case true =>
   simp only [go_sem,seval,aJ,hdi,hm,q1,q2,hwi];(with_reducible and_intros)<;>first|exact .dq|omega|skip
   refine ah.step () hi (hnext (by simp [q2])) ?_;simp only [go_sem,seval]
  simp only [go_sem,seval,aJ,hdi,hm,q1,q2,hhit (by simp [q1,q2])];(with_reducible and_intros)<;>first|exact .dq|omega|skip
 ·intro _ hdx hI;simp only [go_sem,seval,aJ,hdx,Fq (fun j hj=>hI j hj hj)]
theorem xB (x:ay):Abs.Spec Tryz.prog 239 [] [.agg x.cells] [] (.bI [.int .i64 (if x.set==0 then x.aX else x.set),.bool (!(x.set==0&&x.aX==0))]):=by
 simp only [ay.cells];refine bu 14 1 [.tmp 2,.tmp 3] mixed Tryz.func239 ?_;cases q1:x.set==0<;>cases q2:x.aX==0<;>simp only [go_sem,seval,bne,q1,q2,Bool.false_and,Bool.and_self,Bool.and_false,Bool.not_true,Bool.not_false]
 all_goals (with_reducible and_intros)<;>first|exact .dq|omega|skip
theorem Du (a b:Int) (ha:dj a) (hb:dj b):Abs.Spec Tryz.prog 241 [] [.int .i64 a,.int .i64 b] [] (.bI [.int .i64 (if bL (a*b) then a*b else 0),.bool (bL (a*b))]):=by
 have h1:=lX a b ha hb;have h2:=kB (a*b);simp only [wd] at h1 h2;refine bu 12 2 [.tmp 4,.tmp 5] mixed Tryz.func241 ?_;simp only [go_sem,seval];(with_reducible and_intros)<;>first|exact .dq|omega|skip
 refine aa.pure h1 ?_;simp only [go_sem,seval];(with_reducible and_intros)<;>first|exact .dq|omega|skip
 refine aa.pure h2 ?_;simp only [go_sem,seval]
def sizedB (t:aL):Bool:=within t.bg 1 1048576&&within t.aX 1 1073741824
def yw (r:aq) (t:aL):Int:=if r.okB then (if sizedB t then (if br r t.inst&&(dQ r t.gp&&dQ r t.eC) then (if t.gp==t.eC then 16 else if bJ r t.gp==1&&bJ r t.eC==1 then 0 else 14) else 10) else 3) else 14
theorem Hq (r:aq) (t:aL) (h:r.jt):Abs.Spec Tryz.prog 186 [] [.agg r.cells,.agg t.cells] [] (.int .i64 (yw r t)):=by
 have c1:=dL r h.small;have c2:Abs.Spec Tryz.prog 176 [] [.agg t.cells] [] (.bool (sizedB t)):=qm t;have c3:=dz r t.inst h.small;have c4:=ct r t.gp h.small;have c5:=ct r t.eC h.small;obtain ⟨gi,hgi⟩:∃ g,g=bf r t.inst:=⟨_,rfl⟩
 obtain ⟨gb,hgb⟩:∃ g,g=ew r t.gp:=⟨_,rfl⟩
 obtain ⟨gs,hgs⟩:∃ g,g=ew r t.eC:=⟨_,rfl⟩
 have e:yw r t=if r.okB then (if sizedB t then (if br r t.inst&&(dQ r t.gp&&dQ r t.eC) then (if t.gp==t.eC then 16 else if gb.state==1&&gs.state==1 then 0 else 14) else 10) else 3) else 14:=by rw [hgb,hgs];rfl
 rw [e];rw [<- hgi] at c3;rw [<- hgb] at c4;rw [<- hgs] at c5;clear e hgi hgb hgs;simp only [aq.cells,ay.cells,ak.cells,aL.cells] at *;refine bu 61 2 [.tmp 4] mixed Tryz.func186 ?_;simp only [go_sem,seval];(with_reducible and_intros)<;>first|exact .dq|omega|skip
 refine aa.pure c1 ?_;cases b1:r.okB
 ·simp only [go_sem,seval]
 simp only [go_sem,seval];(with_reducible and_intros)<;>first|exact .dq|omega|skip
 refine aa.pure c2 ?_;cases b2:sizedB t
 ·simp only [go_sem,seval]
 simp only [go_sem,seval];(with_reducible and_intros)<;>first|exact .dq|omega|skip
 refine aa.pure c3 ?_;simp only [go_sem,seval];(with_reducible and_intros)<;>first|exact .dq|omega|skip
 refine aa.pure c4 ?_;simp only [go_sem,seval];(with_reducible and_intros)<;>first|exact .dq|omega|skip
 refine aa.pure c5 ?_;clear c1 c2 c3 c4 c5;cases q1:br r t.inst<;>simp only [go_sem,seval,q1,Bool.false_and,Bool.true_and]<;>(with_reducible and_intros)<;>first|exact .dq|omega|skip
 cases q2:dQ r t.gp<;>simp only [go_sem,seval,q1,q2,Bool.false_and,Bool.true_and]<;>(with_reducible and_intros)<;>first|exact .dq|omega|skip
 cases q3:dQ r t.eC<;>simp only [go_sem,seval,q1,q2,q3]<;>(with_reducible and_intros)<;>first|exact .dq|omega|skip
 cases q4:t.gp==t.eC<;>simp only [go_sem,seval,q4]<;>(with_reducible and_intros)<;>first|exact .dq|omega|skip
 cases q5:gb.state==1<;>simp only [go_sem,seval,bne,q5,Bool.false_and,Bool.true_and]<;>(with_reducible and_intros)<;>first|exact .dq|omega|skip
 cases q6:gs.state==1<;>simp only [go_sem,seval,bne,q6]<;>(with_reducible and_intros)<;>first|exact .dq|omega|skip
def Rr (t:aL) (back:Bool):Int:=if back then -t.bg else t.bg
def gz (t:aL) (back:Bool):List aB:=if sizedB t then [⟨t.gp,t.inst,Rr t back,Rr t back*t.aX⟩,⟨t.eC,t.inst,-Rr t back,-Rr t back*t.aX⟩] else []
theorem Hv (t:aL) (back:Bool):Abs.Spec Tryz.prog 234 [] [.agg t.cells,.bool back] [.own 4 ((gz t back).map aB.cells)] (.ref 0):=by
 have c2:Abs.Spec Tryz.prog 176 [] [.agg t.cells] [] (.bool (sizedB t)):=qm t;simp only [aL.cells] at *;refine bu 39 2 [.tmp 4] mixed Tryz.func234 ?_;simp only [go_sem,seval];(with_reducible and_intros)<;>first|exact .dq|omega|skip
 refine aa.pure c2 ?_;cases b2:sizedB t
 ·simp only [go_sem,seval,gz,b2]<;>simp
 have hz:=b2;simp only [sizedB,within,cr,decide_eq_true_eq] at hz;obtain ⟨⟨a1,a2⟩,a3,a4⟩:=hz;cases back
 ·have m1:=fQ (a:=t.bg) (b:=t.aX) (A:=1048576) (B:=1073741824) (by omega) (by omega);have m2:=fQ (a:=-t.bg) (b:=t.aX) (A:=1048576) (B:=1073741824) (by omega) (by omega);have w1:IntKind.wrap .i64 (0-t.bg) = -t.bg:=by rw [bn (by omega) (by omega)];omega
  have w2:IntKind.wrap .i64 (t.bg*t.aX)=t.bg*t.aX:=bn (by omega) (by omega);have w3:IntKind.wrap .i64 (-t.bg*t.aX) = -t.bg*t.aX:=bn (by omega) (by omega);simp only [go_sem,seval,w1,w2,w3,gz,b2,Rr]<;>simp
 ·have m1:=fQ (a:=-t.bg) (b:=t.aX) (A:=1048576) (B:=1073741824) (by omega) (by omega);have m2:=fQ (a:=t.bg) (b:=t.aX) (A:=1048576) (B:=1073741824) (by omega) (by omega);have w1:IntKind.wrap .i64 (0-t.bg) = -t.bg:=by rw [bn (by omega) (by omega)];omega
  have w0:IntKind.wrap .i64 (0 - -t.bg) = - -t.bg:=by rw [bn (by omega) (by omega)];omega
  have w2:IntKind.wrap .i64 (-t.bg*t.aX) = -t.bg*t.aX:=bn (by omega) (by omega);have hn:- -t.bg=t.bg:=by omega
  have w3:IntKind.wrap .i64 (- -t.bg*t.aX) = - -t.bg*t.aX:=by rw [hn];exact bn (by omega) (by omega)
  simp only [go_sem,seval,w1,w0,w2,w3,gz,b2,Rr]<;>simp
theorem u5 (t:aL) (back:Bool):Abs.Spec Tryz.prog 234 [] [.agg t.cells,.bool back] [] (.sl 4 ((gz t back).map aB.cells)):=by
 refine Spec.frozen (Hv t back) [0] rfl ?_;intro r;rcases r with _ | r<;>rfl
theorem G8 (a b c:Int) (ha:dj a) (hb:dj (b*c)):Abs.Spec Tryz.prog 263 [] [.int .i64 a,.int .i64 b,.int .i64 c] [] (.agg (wd (a*(b*c)))):=by
 have h1:=lX a (b*c) ha hb;have w:IntKind.wrap .i64 (b*c)=b*c:=bn hb.1 (by have:=hb.2;omega);simp only [wd] at h1 |-;refine bu 12 3 [.cell 6 117] mixed Tryz.func263 ?_;simp only [go_sem,seval,w];(with_reducible and_intros)<;>first|exact .dq|omega|skip
 refine aa.pure h1 ?_;simp only [go_sem,seval]
def gZ (p:aB) (m pr:Int):Int:=p.bg*(pr*m) + -p.cost*m
theorem xp (p:aB) (m pr:Int) (hq:dj p.bg) (hc:bL p.cost=true) (hm:0<=m/\m<=1024) (hp:0<=pr/\pr<=1073741824):Abs.Spec Tryz.prog 240 [] [.agg p.cells,.int .i64 m,.int .i64 pr] [] (.bI [.int .i64 (if bL (gZ p m pr) then gZ p m pr else 0),.bool (bL (gZ p m pr))]):=by
 have k1:=fQ (a:=pr) (b:=m) (A:=1073741824) (B:=1024) (by omega) (by omega);have hcr:=cg.1 hc;have k0:0<=pr*m:=Int.mul_nonneg hp.1 hm.1;have k2:=fQ (a:=p.bg) (b:=pr*m) (A:=9223372036854775808) (B:=1099511627776) (by have:=hq.1;have:=hq.2;omega) (by omega);have k3:=fQ (a:=-p.cost) (b:=m) (A:=4611686018427387904) (B:=1024) (by omega) (by omega);have h1:=G8 p.bg pr m hq ⟨by omega,by omega⟩;have h2:=lX (-p.cost) m ⟨by omega,by omega⟩ ⟨by omega,by omega⟩;have i1:qI (p.bg*(pr*m))=true:=by simp only [qI,cr,decide_eq_true_eq];omega
 have i2:qI (-p.cost*m)=true:=by simp only [qI,cr,decide_eq_true_eq];omega
 have h3:=kr [p.bg*(pr*m),-p.cost*m] (by simp) (by intro n hn;simp only [List.mem_cons,List.not_mem_nil,or_false] at hn;rcases hn with rfl | rfl<;>assumption);have es:az [p.bg*(pr*m),-p.cost*m]=gZ p m pr:=by simp [az,gZ]
 have i3:qI (gZ p m pr)=true:=by
  have hw:gZ p m pr=p.bg*(pr*m) + -p.cost*m:=rfl;rw [hw];clear hw es h3 h2 h1;simp only [qI,cr,decide_eq_true_eq];constructor<;>omega
 rw [es,i3,if_pos rfl] at h3;have h4:=kB (gZ p m pr);have w:IntKind.wrap .i64 (0-p.cost) = -p.cost:=by rw [bn (by omega) (by omega)];omega
 simp only [kD,wd,List.map_cons,List.map_nil] at h1 h2 h3 h4;simp only [aB.cells];obtain ⟨A,hA⟩:=aH (p.bg*(pr*m));obtain ⟨B,hB⟩:=aH (-p.cost*m);obtain ⟨C,hC⟩:=aH (gZ p m pr);rw [<- hA] at h1 h3;rw [<- hB] at h2 h3;rw [<- hC] at h3 h4 |-;clear hA hB hC k1 k0 k2 k3 i1 i2 es i3;refine bu 31 3 [.tmp 6,.tmp 7] mixed Tryz.func240 ?_;simp only [go_sem,seval];(with_reducible and_intros)<;>first|exact .dq|omega|skip
 refine aa.pure h1 ?_;simp only [go_sem,seval,w];(with_reducible and_intros)<;>first|exact .dq|omega|skip
 refine aa.pure h2 ?_;simp only [go_sem,seval];(with_reducible and_intros)<;>first|exact .dq|omega|skip
 refine aa.gen [] [] true (by simp) ?_;simp only [go_sem,seval];refine aU.intro h3 ?_;simp only [go_sem,seval];(with_reducible and_intros)<;>first|exact .dq|omega|skip
 refine aa.pure h4 ?_;simp only [go_sem,seval]
theorem JK (b:aF) (h:b.small):Abs.Spec Tryz.prog 124 [] [.agg b.cells] [.own 7 (b.ts.map aL.cells)] (.agg [.int .i64 b.next,.ref 0,.sl 4 (b.qs.map aB.cells)]):=by
 refine Spec.frozen (qq b h) [1] rfl ?_;intro r;rcases r with _ | _ | r<;>rfl
def rB (p:aB):Bool:=pz p.who p.inst&&(bL p.bg&&bL p.cost)
def Ig (g:List aB):Bool:=(List.range 8).all fun i=>az (pick (fun p:aB=>p.inst==(i:Int)+1) aB.bg g)==0
def IZ (b:aF) (g:List aB) (w n:Int):Int:=az ((posOf w n b.qs).bg :: pick (dU w n) aB.bg g)
def TT (b:aF) (g:List aB) (w n:Int):Int:=az ((posOf w n b.qs).cost :: pick (dU w n) aB.cost g)
def Fe (b:aF) (g:List aB) (w n:Int):Bool:=bL (IZ b g w n)&&(bL (TT b g w n)&&within (IZ b g w n) (-1099511627776) 1099511627776)
def HC (b:aF) (g:List aB) (w n:Int):List aB:=if IZ b g w n==0&&TT b g w n==0 then [] else [⟨w,n,IZ b g w n,TT b g w n⟩]
def NY (b:aF) (g:List aB) (w:Int) (i:Nat):List aB:=(List.range i).flatMap fun (k:Nat)=>HC b g w ((k:Int)+1)
def zu (b:aF) (g:List aB) (i:Nat):List aB:=(List.range i).flatMap fun (k:Nat)=>NY b g ((k:Int)+1) 8
def Mu (b:aF) (g:List aB) (w:Int):Bool:=(List.range 8).all fun (k:Nat)=>Fe b g w ((k:Int)+1)
def Dw (b:aF) (g:List aB):Bool:=(List.range 16).all fun (k:Nat)=>Mu b g ((k:Int)+1)
def jH (b:aF) (g:List aB):Int:=if b.okB then (if g.all rB then (if Ig g then (if Dw b g then 0 else 1) else 12) else 3) else 14
def tB (b:aF) (g:List aB):aF:=if jH b g=0 then ⟨b.next,b.ts,zu b g 16⟩ else ⟨0,[],[]⟩
theorem V0 (b:aF) (g:List aB) (w n:Int):(HC b g w n).length<=1:=by unfold HC;split<;>simp
theorem Qj (b:aF) (g:List aB) (w:Int) (i:Nat):(NY b g w i).length<=i:=by
 have:=Cp (f:=fun (k:Nat)=>HC b g w ((k:Int)+1)) (m:=1) (fun k=>V0 _ _ _ _) i;simpa [NY] using this
theorem Ee (b:aF) (g:List aB) (i:Nat):(zu b g i).length<=8*i:=Cp (f:=fun (k:Nat)=>NY b g ((k:Int)+1) 8) (fun k=>Qj _ _ _ _) i
theorem Jf {w n:Int}:∀ {qs:List aB},(∀ p∈qs,p.cU)->dj (posOf w n qs).bg/\dj (posOf w n qs).cost
 | [],_=>by simp [posOf,dj]
 | p :: r,h=>by
  simp only [posOf];split
  ·have:=h p (by simp);exact ⟨this.2.2.1,this.2.2.2⟩
  ·exact Jf fun q hq=>h q (by simp [hq])
theorem su (b:aF) (g:List aB) (hb:b.small) (hr:∀ p∈b.qs,p.cU) (hg:g.length < 2 ^ 29):Abs.Spec Tryz.prog 233 [] [.agg b.cells,.sl 4 (g.map aB.cells)] [.own 7 ((tB b g).ts.map aL.cells),.own 4 ((tB b g).qs.map aB.cells)] (.bI [.agg [.int .i64 (tB b g).next,.ref 0,.ref 1],.int .i64 (jH b g)]):=by
 have c1:=iA b hb hr;have c2:=JK b hb;have c3:=fun w n=>nU b w n hb
 have hpr:=fun w n=>Jf (w:=w) (n:=n) hr
 simp only [aF.cells] at c1 c2 c3 |-;refine bu 199 2 [.cell 4 33,.tmp 5] mixed Tryz.func233 ?_;simp only [go_sem,seval];(with_reducible and_intros)<;>first|exact .dq|omega|skip
 refine aa.pure c1 ?_;cases b1:b.okB
 ·have e:jH b g=14:=by simp [jH,b1]
  simp only [go_sem,seval,tB,e]<;>simp
 have e:jH b g=if g.all rB then (if Ig g then (if Dw b g then 0 else 1) else 12) else 3:=by simp [jH,b1]
 simp only [tB];rw [e];clear e c1;simp only [go_sem,seval];refine aC.walk (S:=Unit) g.length [1,2,4] [48,80] (fun i _=>[(6,.int .i64 i)]) (fun _ _=>[]) (fun i _=>(g.drop i).all rB=g.all rB) () rfl ?_ ?_ ?_
 ·simp only [go_sem,seval]<;>simp
 ·intro i _ hi hdi hwi hI;have hm:=aG (c:=aB.cells) g hi;have hli:(i:Int) < (g.length:Int):=by omega
  obtain ⟨x,hx⟩:=aH (g[i]);have k1:=pX x.who x.inst;have k2:=dn x.bg;have k3:=dn x.cost;rw [dN hi,<- hx] at hI;rw [<- hx] at hm;simp only [List.all_cons,rB] at hI;simp only [aB.cells] at hm;clear c2 c3;simp only [go_sem,seval,aJ,hdi,hm];(with_reducible and_intros)<;>first|exact .dq|omega|skip
  refine aa.pure k1 ?_;cases q1:pz x.who x.inst
  ·rw [q1,Bool.false_and,Bool.false_and] at hI;have hI':g.all rB=false:=hI.symm;simp only [go_sem,seval,q1,hI']
   all_goals simp
  simp only [go_sem,seval,q1,aJ,hm];(with_reducible and_intros)<;>first|exact .dq|omega|skip
  refine aa.pure k2 ?_;cases q2:bL x.bg
  ·rw [q1,q2,Bool.false_and,Bool.and_false,Bool.false_and] at hI;have hI':g.all rB=false:=hI.symm;simp only [go_sem,seval,q2,hI']
   all_goals simp
  simp only [go_sem,seval,q2,aJ,hm];(with_reducible and_intros)<;>first|exact .dq|omega|skip
  refine aa.pure k3 ?_;cases q3:bL x.cost
  ·rw [q1,q2,q3,Bool.and_false,Bool.and_false,Bool.false_and] at hI;have hI':g.all rB=false:=hI.symm;simp only [go_sem,seval,q3,hI']
   all_goals simp
  rw [q1,q2,q3,Bool.and_self,Bool.and_self,Bool.true_and] at hI;simp only [go_sem,seval,q3,hwi];(with_reducible and_intros)<;>first|exact .dq|omega|skip
  refine ah.step () hi hI ?_;simp only [go_sem,seval]
 intro _ hdx hI;rw [List.drop_length] at hI;have hall:g.all rB=true:=hI.symm
 have hgm:∀ p∈g,bL p.bg=true/\bL p.cost=true:=fun p hp=>by
  have:=List.all_eq_true.1 hall p hp;simp only [rB,cr] at this;exact this.2
 rw [hall];simp only [go_sem,seval,aJ,hdx];clear hI hdx;refine aC.walk (S:=Unit) 8 [1,2,4] [48,80] (fun i _=>[(7,.int .i64 ((i:Int)+1))]) (fun _ _=>[]) (fun i _=>∀ k < i,(az (pick (fun p:aB=>p.inst==((k:Nat):Int)+1) aB.bg g)==0)=true) () (by simp) ?_ ?_ ?_
 ·simp only [go_sem,seval]<;>simp
 ·intro c _ hc _ _ hI;obtain ⟨n,hn⟩:=aH ((c:Int)+1);have hd:decide (n<=8)=true:=decide_eq_true (by omega);have hw:IntKind.wrap .i64 (n+1)=((c+1:Nat):Int)+1:=by rw [bn (by omega) (by omega)];omega
  have hA:=cE (pick (fun p:aB=>p.inst==n) aB.bg g) (lq fun p hp=>oS (hgm p hp).1) (by have:=bW (fun p:aB=>p.inst==n) aB.bg g;omega);have h0:=ad6 (pick (fun p:aB=>p.inst==n) aB.bg g)
  have hbad:(az (pick (fun p:aB=>p.inst==n) aB.bg g)==0)=false->Ig g=false:=fun h=>by
   rw [Ig,List.all_eq_false];exact ⟨c,List.mem_range.2 hc,by rw [<- hn,h];simp⟩
  rw [<- hn];clear c2 c3;simp only [go_sem,seval,hd,aJ];refine aC.walk (S:=Unit) g.length [1,2,4,7] [48,80] (fun i _=>[(9,.int .i64 i),(8,.ref 1360)]) (fun i _=>[(1360,.own 1 (ints (pick (fun p:aB=>p.inst==n) aB.bg (g.take i))))]) (fun _ _=>True) () trivial ?_ ?_ ?_
  ·simp only [go_sem,seval]<;>simp [pick,ints]
  ·intro i _ hi hdi hwi _;have hm:=aG (c:=aB.cells) g hi;have hs:=fU (fun p:aB=>p.inst==n) aB.bg hi;have hlen:=bW (fun p:aB=>p.inst==n) aB.bg (g.take i);have hlt:(g.take i).length=i:=by simp;omega
   have hli:(i:Int) < (g.length:Int):=by omega
   obtain ⟨L,hL⟩:=aH (pick (fun p:aB=>p.inst==n) aB.bg (g.take i));obtain ⟨x,hx⟩:=aH (g[i]);rw [<- hx,<- hL] at hs;rw [<- hx] at hm;rw [<- hL] at hlen |-;simp only [aB.cells] at hm;simp only [go_sem,seval,aJ,hdi,hm];(with_reducible and_intros)<;>first|exact .dq|omega|skip
   cases hb:x.inst==n
   ·rw [hb] at hs;simp only [go_sem,seval,hwi];refine ah.step () hi trivial ?_;simp only [go_sem,seval,hs]<;>simp
   ·rw [hb] at hs;simp only [go_sem,seval,hwi,av,aJ,hm];(with_reducible and_intros)<;>first|exact .dq|omega|skip
    refine ah.step () hi trivial ?_;simp only [go_sem,seval,hs]<;>simp
  ·intro _ hdx _;simp only [go_sem,seval,hdx,aJ,List.take_length];refine aa.gen [] [] true (by simp) ?_;simp only [go_sem,seval];refine aU.intro hA ?_;obtain ⟨L,hL⟩:=aH (pick (fun p:aB=>p.inst==n) aB.bg g);rw [<- hL] at h0 hbad |-;cases b1:bL (az L)
   ·have hbad:=hbad (by rw [<- h0,b1];rfl);simp only [go_sem,seval,b1,hbad]
    all_goals simp
   cases b2:addN L==0
   ·have hbad:=hbad (by rw [<- h0,b1,b2];rfl);simp only [go_sem,seval,b1,bne,b2,hbad]
    all_goals simp
   rw [b1,b2] at h0;simp only [go_sem,seval,b1,bne,b2,hw];(with_reducible and_intros)<;>first|exact .dq|omega|skip
   refine ah.step () hc ?_ ?_
   ·intro k hk;rcases Nat.lt_or_ge k c with h | h
    ·exact hI k h
    ·obtain rfl:k=c:=by omega
     rw [<- hn,<- hL];exact h0.symm
   ·simp only [go_sem,seval]
 intro _ _ hI;have hfl:Ig g=true:=List.all_eq_true.2 fun c hc=>hI c (List.mem_range.1 hc)
 rw [hfl];clear hI hfl hall;simp only [go_sem,seval];(with_reducible and_intros)<;>first|exact .dq|omega|skip
 refine aa.gen [] [] false (by simp) ?_;simp only [go_sem,seval];refine aU.intro c2 ?_;clear c2;simp only [go_sem,seval];(with_reducible and_intros)<;>first|exact .dq|omega|skip
 refine aC.walk (S:=Unit) 16 [1,2,4,12] [48,80,1584] (fun i _=>[(13,.int .i64 ((i:Int)+1))]) (fun i _=>[(208,.box [.int .i64 b.next,.ref 1584,.ref 3152]),(3152,.own 4 ((zu b g i).map aB.cells))]) (fun i _=>∀ k < i,Mu b g (((k:Nat):Int)+1)=true) () (by simp) ?_ ?_ ?_
 ·simp only [go_sem,seval]<;>simp [zu]
 ·intro i _ hi _ _ hI;obtain ⟨w,hw⟩:=aH ((i:Int)+1);have hd:decide (w<=16)=true:=decide_eq_true (by omega);have hww:IntKind.wrap .i64 (w+1)=((i+1:Nat):Int)+1:=by rw [bn (by omega) (by omega)];omega
  have hnx:zu b g (i+1)=zu b g i++NY b g w 8:=by rw [hw];exact nW _ i
  have hwl:=Ee b g i
  have hbad:Mu b g w=false->Dw b g=false:=fun h=>by
   rw [Dw,List.all_eq_false];exact ⟨i,List.mem_range.2 hi,by rw [<- hw,h];simp⟩
  obtain ⟨W,hW⟩:=aH (zu b g i);rw [<- hW] at hnx hwl |-;rw [<- hw];simp only [go_sem,seval,hd];refine aC.walk (S:=Unit) 8 [1,2,4,12,13] [48,80,1584] (fun j _=>[(14,.int .i64 ((j:Int)+1))]) (fun j _=>[(208,.box [.int .i64 b.next,.ref 1584,.ref 3152]),(3152,.own 4 ((W++NY b g w j).map aB.cells))]) (fun j _=>∀ k < j,Fe b g w (((k:Nat):Int)+1)=true) () (by simp) ?_ ?_ ?_
  ·simp only [go_sem,seval]<;>simp [NY]
  ·intro j _ hj _ _ hJ;obtain ⟨n,hn⟩:=aH ((j:Int)+1);have hd:decide (n<=8)=true:=decide_eq_true (by omega);have hwn:IntKind.wrap .i64 (n+1)=((j+1:Nat):Int)+1:=by rw [bn (by omega) (by omega)];omega
   have hnn:NY b g w (j+1)=NY b g w j++HC b g w n:=by rw [hn];exact nW _ j
   have hnl:=Qj b g w j
   have hbad2:Fe b g w n=false->Dw b g=false:=fun h=>hbad (by
    rw [Mu,List.all_eq_false]
    exact ⟨j,List.mem_range.2 hj,by rw [<- hn,h];simp⟩)
   have hP:=c3 w n;have hpr:=hpr w n;obtain ⟨p,hp⟩:=aH (posOf w n b.qs);rw [<- hp] at hP hpr;obtain ⟨V,hV⟩:=aH (W++NY b g w j);have hVl:V.length<=200:=by rw [hV,List.length_append];omega
   have hnV:W++NY b g w (j+1)=V++HC b g w n:=by rw [hnn,hV,List.append_assoc]
   have hA:=cE (p.bg :: pick (dU w n) aB.bg g) (fun x hx=>by
    rcases List.mem_cons.1 hx with rfl | hx
    ·exact hpr.1
    ·exact lq (fun q hq=>oS (hgm q hq).1) x hx) (by have:=bW (dU w n) aB.bg g;simp only [List.length_cons];omega)
   have hB:=cE (p.cost :: pick (dU w n) aB.cost g) (fun x hx=>by
    rcases List.mem_cons.1 hx with rfl | hx
    ·exact hpr.2
    ·exact lq (fun q hq=>oS (hgm q hq).2) x hx) (by have:=bW (dU w n) aB.cost g;simp only [List.length_cons];omega)
   have eq:az (p.bg :: pick (dU w n) aB.bg g)=IZ b g w n:=by rw [hp];rfl
   have ec:az (p.cost :: pick (dU w n) aB.cost g)=TT b g w n:=by rw [hp];rfl
   rw [<- hV,<- hn];simp only [aB.cells] at hP;clear c3 hV hp hW hnn hnx;simp only [go_sem,seval,hd];(with_reducible and_intros)<;>first|exact .dq|omega|skip
   refine aa.pure hP ?_;simp only [go_sem,seval,aJ];(with_reducible and_intros)<;>first|exact .dq|omega|skip
   refine aC.walk (S:=Unit) g.length [1,2,4,12,13,14] [48,80,208,1584,3152] (fun i _=>[(18,.int .i64 i),(16,.ref 2416),(17,.ref 2544)]) (fun i _=>[(2416,.own 1 (ints (p.bg :: pick (dU w n) aB.bg (g.take i)))),(2544,.own 1 (ints (p.cost :: pick (dU w n) aB.cost (g.take i))))]) (fun _ _=>True) () trivial ?_ ?_ ?_
   ·simp only [go_sem,seval]<;>simp [pick,ints]
   ·intro i _ hi hdi hwi _;have hm:=aG (c:=aB.cells) g hi;have hs1:=fU (dU w n) aB.bg hi;have hs2:=fU (dU w n) aB.cost hi;have hl1:=bW (dU w n) aB.bg (g.take i);have hl2:=bW (dU w n) aB.cost (g.take i);have hlt:(g.take i).length=i:=by simp;omega
    have hli:(i:Int) < (g.length:Int):=by omega
    have hs1:ints (p.bg :: pick (dU w n) aB.bg (g.take (i+1)))=ints (p.bg :: pick (dU w n) aB.bg (g.take i))++(if dU w n g[i] then [[.int .i64 g[i].bg]] else []):=congrArg (fun z:List (List D)=>([D.int .i64 p.bg]:List D) :: z) hs1;have hs2:ints (p.cost :: pick (dU w n) aB.cost (g.take (i+1)))=ints (p.cost :: pick (dU w n) aB.cost (g.take i))++(if dU w n g[i] then [[.int .i64 g[i].cost]] else []):=congrArg (fun z:List (List D)=>([D.int .i64 p.cost]:List D) :: z) hs2;have hl1:(p.bg :: pick (dU w n) aB.bg (g.take i)).length<=i+1:=by simp only [List.length_cons];omega
    have hl2:(p.cost :: pick (dU w n) aB.cost (g.take i)).length<=i+1:=by simp only [List.length_cons];omega
    obtain ⟨L,hL⟩:=aH (p.bg :: pick (dU w n) aB.bg (g.take i));obtain ⟨M,hM⟩:=aH (p.cost :: pick (dU w n) aB.cost (g.take i));obtain ⟨x,hx⟩:=aH (g[i]);rw [<- hx,<- hL] at hs1;rw [<- hx,<- hM] at hs2;rw [<- hx] at hm;rw [<- hL] at hl1;rw [<- hM] at hl2;rw [<- hL,<- hM];simp only [dU] at hs1 hs2;simp only [aB.cells] at hm;clear hL hM;cases q1:x.who==w
    ·simp only [q1,Bool.false_and,fZ,if_false,List.append_nil] at hs1 hs2;simp only [go_sem,seval,aJ,hdi,hm,q1,hwi];(with_reducible and_intros)<;>first|exact .dq|omega|skip
     refine ah.step () hi trivial ?_;simp only [go_sem,seval,hs1,hs2]
    cases q2:x.inst==n
    ·simp only [q1,q2,Bool.and_false,fZ,if_false,List.append_nil] at hs1 hs2;simp only [go_sem,seval,aJ,hdi,hm,q1,q2,hwi];(with_reducible and_intros)<;>first|exact .dq|omega|skip
     refine ah.step () hi trivial ?_;simp only [go_sem,seval,hs1,hs2]
    simp only [q1,q2,Bool.and_self,if_true] at hs1 hs2;simp only [go_sem,seval,aJ,hdi,hm,q1,q2,hwi,av];(with_reducible and_intros)<;>first|exact .dq|omega|skip
    refine ah.step () hi trivial ?_;simp only [go_sem,seval,hs1,hs2]
   ·intro _ hdx _;simp only [go_sem,seval,hdx,aJ,List.take_length];(with_reducible and_intros)<;>first|exact .dq|omega|skip
    refine aa.gen [] [] true (by simp) ?_;simp only [go_sem,seval];refine aU.intro hA ?_;simp only [go_sem,seval];(with_reducible and_intros)<;>first|exact .dq|omega|skip
    refine aa.gen [] [] true (by simp) ?_;simp only [go_sem,seval];refine aU.intro hB ?_;simp only [addN,eq,ec];clear hA hB;have hW:=bA (IZ b g w n) (-1099511627776) 1099511627776;simp only [Fe] at hbad2;simp only [HC] at hnV;obtain ⟨X,hX⟩:=aH (IZ b g w n);obtain ⟨Y,hY⟩:=aH (TT b g w n);have hokX:(bL X&&(bL Y&&within X (-1099511627776) 1099511627776))=Fe b g w n:=by rw [hX,hY];rfl
    rw [<- hX,<- hY] at hbad2 hnV;rw [<- hX] at hW;rw [<- hX,<- hY];cases b1:bL X
    ·have hbad2:=hbad2 (by rw [b1];rfl);simp only [go_sem,seval,b1,hbad2]
     all_goals simp
    cases b2:bL Y
    ·have hbad2:=hbad2 (by rw [b1,b2];rfl);simp only [go_sem,seval,b1,b2,hbad2]
     all_goals simp
    simp only [go_sem,seval,b1,b2];(with_reducible and_intros)<;>first|exact .dq|omega|skip
    refine aa.pure hW ?_;cases b3:within X (-1099511627776) 1099511627776
    ·have hbad2:=hbad2 (by rw [b1,b2,b3];rfl);simp only [go_sem,seval,b3,hbad2]
     all_goals simp
    have hJ2:∀ k < j+1,Fe b g w (((k:Nat):Int)+1)=true:=fun k hk=>by
     rcases Nat.lt_or_ge k j with h | h
     ·exact hJ k h
     ·obtain rfl:k=j:=by omega
      rw [<- hn,<- hokX,b1,b2,b3];rfl
    cases q1:X==0
    ·simp only [q1,Bool.false_and,fZ,if_false] at hnV;simp only [go_sem,seval,b3,bne,q1,hwn,aJ];(with_reducible and_intros)<;>first|exact .dq|omega|skip
     refine ah.step () hj hJ2 ?_;simp only [go_sem,seval,hnV]<;>simp
    cases q2:Y==0
    ·simp only [q1,q2,Bool.and_false,fZ,if_false] at hnV;simp only [go_sem,seval,b3,bne,q1,q2,hwn,aJ];(with_reducible and_intros)<;>first|exact .dq|omega|skip
     refine ah.step () hj hJ2 ?_;simp only [go_sem,seval,hnV]<;>simp
    simp only [q1,q2,Bool.and_self,if_true,List.append_nil] at hnV;simp only [go_sem,seval,b3,bne,q1,q2,hwn];(with_reducible and_intros)<;>first|exact .dq|omega|skip
    refine ah.step () hj hJ2 ?_;simp only [go_sem,seval,hnV]
  ·intro _ _ hJ;have hok:Mu b g w=true:=List.all_eq_true.2 fun k hk=>hJ k (List.mem_range.1 hk)
   simp only [go_sem,seval,hww];(with_reducible and_intros)<;>first|exact .dq|omega|skip
   refine ah.step () hi ?_ ?_
   ·intro k hk;rcases Nat.lt_or_ge k i with h | h
    ·exact hI k h
    ·obtain rfl:k=i:=by omega
     rw [<- hw];exact hok
   ·simp only [go_sem,seval,hnx]
 ·intro _ _ hI;have hok:Dw b g=true:=List.all_eq_true.2 fun k hk=>hI k (List.mem_range.1 hk)
  simp only [go_sem,seval,hok]
theorem SR {b:aF} (h:b.okB=true):0<=b.next/\b.next<=1099511627776/\b.ts.length<=128:=by
 simp only [aF.okB,cr,Bool.not_eq_true',decide_eq_false_iff_not] at h;omega
theorem kZ {b:aF} {g:List aB} (h:jH b g=0):b.okB=true/\tB b g=⟨b.next,b.ts,zu b g 16⟩:=by
 refine ⟨?_,by simp [tB,h]⟩;unfold jH at h;split at h
 ·assumption
 ·cases h
theorem PN {b:aF} {g:List aB} (h:jH b g≠0):tB b g=⟨0,[],[]⟩:=by simp [tB,h]
def fW (b:aF) (t:aL):Int:=if b.okB then (if t.okB then (if 128<=b.ts.length then 9 else if b.next=1099511627776 then 1 else jH b (gz t false)) else 3) else 14
def ia (b:aF) (t:aL):aF:=if fW b t=0 then ⟨b.next+1,b.ts++[{ t with no:=b.next+1,off:=false }],zu b (gz t false) 16⟩ else ⟨0,[],[]⟩
def qF (b:aF) (t:aL):Int:=if fW b t=0 then b.next+1 else 0
theorem IB (t:aL) (k:Bool):(gz t k).length<=2:=by unfold gz;split<;>simp
theorem KD (b:aF) (t:aL) (hb:b.small) (hr:∀ p∈b.qs,p.cU):Abs.Spec Tryz.prog 187 [] [.agg b.cells,.agg t.cells] [.own 7 ((ia b t).ts.map aL.cells),.own 4 ((ia b t).qs.map aB.cells)] (.bI [.agg [.int .i64 (ia b t).next,.ref 0,.ref 1],.int .i64 (qF b t),.int .i64 (fW b t)]):=by
 have c1:=iA b hb hr;have c2:=tv t;have c3:=u5 t false;have c4:=su b (gz t false) hb hr (by have:=IB t false;omega);have hlt:=hb.1;simp only [aF.cells,aL.cells] at c1 c2 c3 c4 |-;refine bu 54 2 [.cell 4 33,.tmp 5,.tmp 6] mixed Tryz.func187 ?_;simp only [go_sem,seval];(with_reducible and_intros)<;>first|exact .dq|omega|skip
 refine aa.pure c1 ?_;cases b1:b.okB
 ·have e:fW b t=14:=by simp [fW,b1]
  simp only [go_sem,seval,ia,qF,e]
  all_goals simp
 obtain ⟨n1,n2,n3⟩:=SR b1;simp only [go_sem,seval];(with_reducible and_intros)<;>first|exact .dq|omega|skip
 refine aa.pure c2 ?_;cases b2:t.okB
 ·have e:fW b t=3:=by simp [fW,b1,b2]
  simp only [go_sem,seval,ia,qF,e]
  all_goals simp
 by_cases b3:128<=b.ts.length
 ·have e:fW b t=9:=by simp [fW,b1,b2,b3]
  have d:decide ((128:Int)<=(b.ts.length:Int))=true:=decide_eq_true (by omega);simp only [go_sem,seval,aJ,d,ia,qF,e]
  all_goals simp
 have d3:decide ((128:Int)<=(b.ts.length:Int))=false:=decide_eq_false (by omega)
 by_cases b4:b.next=1099511627776
 ·have e:fW b t=1:=by simp only [fW,b1,b2,if_neg b3,if_pos b4];rfl
  have d:(b.next==1099511627776)=true:=by simpa using b4
  simp only [go_sem,seval,aJ,d3,d,ia,qF,e]
  all_goals simp
 have d4:(b.next==1099511627776)=false:=by simpa using b4
 have e:fW b t=jH b (gz t false):=by simp only [fW,b1,b2,if_neg b3,if_neg b4];rfl
 have w:IntKind.wrap .i64 (b.next+1)=b.next+1:=bn (by omega) (by omega)
 simp only [ia,qF];rw [e];clear e c1 c2;simp only [go_sem,seval,aJ,d3,d4];(with_reducible and_intros)<;>first|exact .dq|omega|skip
 refine aa.pure c3 ?_;simp only [go_sem,seval];(with_reducible and_intros)<;>first|exact .dq|omega|skip
 refine aa.gen [] [] false (by simp) ?_;simp only [go_sem,seval];refine aU.intro c4 ?_
 by_cases b5:jH b (gz t false)=0
 ·have hB:=(kZ b5).2;rw [hB,b5];simp only [go_sem,seval,w,aJ];(with_reducible and_intros)<;>first|exact .dq|omega|skip
  all_goals simp
 ·have hB:=PN b5;have d5:(jH b (gz t false)==0)=false:=by simpa using b5
  rw [hB,if_neg b5,if_neg b5];simp only [go_sem,seval,bne,d5,aJ];(with_reducible and_intros)<;>first|exact .dq|omega|skip
  all_goals simp
theorem xM (b:aF) (t:aL) (hb:b.small) (hr:∀ p∈b.qs,p.cU):Abs.Spec Tryz.prog 187 [] [.agg b.cells,.agg t.cells] [] (.bI [.agg (ia b t).cells,.int .i64 (qF b t),.int .i64 (fW b t)]):=by
 refine Spec.frozen (KD b t hb hr) [0,1] rfl ?_;intro r;rcases r with _ | _ | r<;>rfl
theorem vu {n:Int}:∀ {ts:List aL},¬ gQ n ts < 0->∃ (i:Nat) (h:i < ts.length),gQ n ts=i/\Tb n ts[i]=true
 | [],h=>by simp [gQ] at h
 | t :: r,h=>by
  simp only [gQ] at h |-;split at h
  ·rename_i h1;exact ⟨0,by simp,by rw [if_pos h1];rfl,h1⟩
  ·rename_i h1;split at h
   ·omega
   ·rename_i h2;obtain ⟨i,hi,e,ho⟩:=vu (ts:=r) h2;refine ⟨i+1,by simp;omega,?_,by simpa using ho⟩;rw [if_neg h1,if_neg h2,e];rfl
def cy (n:Int) (ts:List aL):aL:=ts.getD (gQ n ts).toNat ⟨0,0,0,0,0,0,false⟩
def Rp (n:Int) (ts:List aL):List aL:=ts.set (gQ n ts).toNat { cy n ts with off:=true }
def eK (b:aF) (n:Int):Int:=if b.okB then (if gQ n b.ts < 0 then 10 else jH b (gz (cy n b.ts) true)) else 14
def dO (b:aF) (n:Int):aF:=if eK b n=0 then ⟨b.next,Rp n b.ts,zu b (gz (cy n b.ts) true) 16⟩ else ⟨0,[],[]⟩
theorem HT (b:aF) (n:Int) (hb:b.small) (hr:∀ p∈b.qs,p.cU):Abs.Spec Tryz.prog 190 [] [.agg b.cells,.int .i64 n] [.own 7 ((dO b n).ts.map aL.cells),.own 4 ((dO b n).qs.map aB.cells)] (.bI [.agg [.int .i64 (dO b n).next,.ref 0,.ref 1],.int .i64 (eK b n)]):=by
 have c1:=iA b hb hr;have c2:=sv b n hb;have c3:=u5 (cy n b.ts) true;have c4:=su b (gz (cy n b.ts) true) hb hr (by have:=IB (cy n b.ts) true;omega);have hlt:=hb.1;simp only [aF.cells] at c1 c2 c3 c4 |-;refine bu 40 2 [.cell 4 33,.tmp 5] mixed Tryz.func190 ?_;simp only [go_sem,seval];(with_reducible and_intros)<;>first|exact .dq|omega|skip
 refine aa.pure c1 ?_;cases b1:b.okB
 ·have e:eK b n=14:=by simp [eK,b1]
  simp only [go_sem,seval,dO,e]
  all_goals simp
 simp only [go_sem,seval];(with_reducible and_intros)<;>first|exact .dq|omega|skip
 refine aa.pure c2 ?_
 by_cases b2:gQ n b.ts < 0
 ·have e:eK b n=10:=by simp [eK,b1,b2]
  have d:decide (gQ n b.ts < 0)=true:=decide_eq_true b2;simp only [go_sem,seval,d,dO,e]
  all_goals simp
 have d2:decide (gQ n b.ts < 0)=false:=decide_eq_false b2;have e:eK b n=jH b (gz (cy n b.ts) true):=by simp only [eK,b1,if_neg b2];rfl
 obtain ⟨i,hi,hfi,hon⟩:=vu b2;have hm:=aG (c:=aL.cells) b.ts hi;have hta:cy n b.ts=b.ts[i]:=by simp [cy,hfi,hi]
 have hli:(i:Int) < (b.ts.length:Int):=by omega
 have hoff:Rp n b.ts=b.ts.set i { b.ts[i] with off:=true }:=by simp [Rp,hta,hfi]
 simp only [dO];rw [e];rw [hta] at c3 c4 |-;rw [hoff];clear e c1 c2 hta hoff;obtain ⟨t,ht⟩:=aH (b.ts[i]);rw [<- ht] at hm c3 c4 |-;simp only [aL.cells] at hm c3;simp only [go_sem,seval,d2,hfi,hm,aJ];rw [hfi] at d2;simp only [go_sem,seval,d2,hfi,hm,aJ];(with_reducible and_intros)<;>first|exact .dq|omega|skip
 refine aa.pure c3 ?_;simp only [go_sem,seval];(with_reducible and_intros)<;>first|exact .dq|omega|skip
 refine aa.gen [] [] false (by simp) ?_;simp only [go_sem,seval];refine aU.intro c4 ?_
 by_cases b5:jH b (gz t true)=0
 ·have hB:=(kZ b5).2;rw [hB,b5];simp only [go_sem,seval,hm,aJ];(with_reducible and_intros)<;>first|exact .dq|omega|skip
  all_goals simp [List.map_set]
 ·have hB:=PN b5;have d5:(jH b (gz t true)==0)=false:=by simpa using b5
  rw [hB,if_neg b5];simp only [go_sem,seval,bne,d5,aJ];(with_reducible and_intros)<;>first|exact .dq|omega|skip
  all_goals simp
theorem uW (b:aF) (n:Int) (hb:b.small) (hr:∀ p∈b.qs,p.cU):Abs.Spec Tryz.prog 190 [] [.agg b.cells,.int .i64 n] [] (.bI [.agg (dO b n).cells,.int .i64 (eK b n)]):=by
 refine Spec.frozen (HT b n hb hr) [0,1] rfl ?_;intro r;rcases r with _ | _ | r<;>rfl
theorem HP (b:aF) (n:Int) (hb:b.small):(dO b n).small:=by
 unfold dO;split
 ·refine ⟨by simpa [Rp] using hb.1,?_⟩;have:=Ee b (gz (cy n b.ts) true) 16
  show (zu b (gz (cy n b.ts) true) 16).length < _
  omega
 ·exact ⟨by simp,by simp⟩
theorem W6 {b:aF} {g:List aB} {w n:Int} (hw:dj w) (hn:dj n) (h:Fe b g w n=true):∀ p∈HC b g w n,p.cU:=by
 intro p hp;unfold HC at hp;split at hp
 ·cases hp
 ·obtain rfl:=List.mem_singleton.1 hp;simp only [Fe,cr] at h;exact ⟨hw,hn,oS h.1,oS h.2.1⟩
theorem zB {b:aF} {g:List aB} {p:aB}:∀ {i:Nat},p∈zu b g i->∃ k m:Nat,k < i/\m < 8/\p∈HC b g ((k:Int)+1) ((m:Int)+1):=by
 intro i hp;obtain ⟨k,hk,hp⟩:=List.mem_flatMap.1 hp;obtain ⟨m,hm,hp⟩:=List.mem_flatMap.1 hp;exact ⟨k,m,List.mem_range.1 hk,List.mem_range.1 hm,hp⟩
theorem EW {b:aF} {g:List aB} (h:Dw b g=true) {k m:Nat} (hk:k < 16) (hm:m < 8):Fe b g ((k:Int)+1) ((m:Int)+1)=true:=by
 have:=List.all_eq_true.1 h k (List.mem_range.2 hk);exact List.all_eq_true.1 this m (List.mem_range.2 hm)
theorem vR {b:aF} {g:List aB} (h:jH b g=0):g.all rB=true/\Ig g=true/\Dw b g=true:=by
 unfold jH at h;split at h
 ·split at h
  ·split at h
   ·split at h
    ·exact ⟨by assumption,by assumption,by assumption⟩
    ·cases h
   ·cases h
  ·cases h
 ·cases h
theorem QF {b:aF} {g:List aB} (h:jH b g=0):∀ p∈zu b g 16,p.cU:=by
 intro p hp;obtain ⟨k,m,hk,hm,hp⟩:=zB hp;exact W6 ⟨by omega,by omega⟩ ⟨by omega,by omega⟩ (EW (vR h).2.2 hk hm) p hp
theorem oY {b:aF} {n:Int} (h:eK b n=0):b.okB=true /\ ¬ gQ n b.ts < 0/\jH b (gz (cy n b.ts) true)=0:=by
 unfold eK at h;split at h
 ·split at h
  ·cases h
  ·exact ⟨by assumption,by assumption,h⟩
 ·cases h
theorem MD {b:aF} {n:Int}:∀ p∈(dO b n).qs,p.cU:=by
 unfold dO;split
 ·rename_i h;exact QF (oY h).2.2
 ·intro p hp;cases hp
def rL (b:aF) (n q p:Int):Int:=if eK b n=0 then fW (dO b n) { cy n b.ts with bg:=q,aX:=p } else eK b n
def oH (b:aF) (n q p:Int):aF:=if eK b n=0 then ia (dO b n) { cy n b.ts with bg:=q,aX:=p } else ⟨0,[],[]⟩
def F3 (b:aF) (n q p:Int):Int:=if eK b n=0 then qF (dO b n) { cy n b.ts with bg:=q,aX:=p } else 0
theorem DF (b:aF) (n q p:Int) (hb:b.small) (hr:∀ p∈b.qs,p.cU):Abs.Spec Tryz.prog 191 [] [.agg b.cells,.int .i64 n,.int .i64 q,.int .i64 p] [] (.bI [.agg (oH b n q p).cells,.int .i64 (F3 b n q p),.int .i64 (rL b n q p)]):=by
 have c1:=uW b n hb hr;have c2:=sv b n hb;have c3:=xM (dO b n) { cy n b.ts with bg:=q,aX:=p } (HP b n hb) MD;have hlt:=hb.1;simp only [rL,oH,F3];obtain ⟨B,hB⟩:=aH (dO b n);obtain ⟨T,hT⟩:=aH (cy n b.ts);rw [<- hB,<- hT] at c3;rw [<- hB] at c1;rw [<- hB,<- hT];simp only [aF.cells,aL.cells] at c1 c2 c3 |-;refine bu 41 4 [.cell 8 33,.tmp 9,.tmp 10] mixed Tryz.func191 ?_;simp only [go_sem,seval];(with_reducible and_intros)<;>first|exact .dq|omega|skip
 refine aa.pure c1 ?_
 by_cases b1:eK b n=0
 case neg =>
  have d:(eK b n==0)=false:=by simpa using b1
  rw [if_neg b1,if_neg b1,if_neg b1];simp only [go_sem,seval,bne,d]
  all_goals simp
 obtain ⟨i,hi,hfi,hon⟩:=vu (oY b1).2.1;have hm:=aG (c:=aL.cells) b.ts hi;have hta:T=b.ts[i]:=by rw [hT];simp [cy,hfi,hi]
 have hli:(i:Int) < (b.ts.length:Int):=by omega
 rw [<- hta] at hm;rw [hfi] at c2;simp only [aL.cells] at hm;rw [b1];simp only [go_sem,seval];(with_reducible and_intros)<;>first|exact .dq|omega|skip
 refine aa.pure c2 ?_;simp only [go_sem,seval,hm,aJ];(with_reducible and_intros)<;>first|exact .dq|omega|skip
 refine aa.pure c3 ?_;simp only [go_sem,seval]
def ef (x:ay):Int:=if x.set==0 then x.aX else x.set
def oU (x:ay):Bool:=!(x.set==0&&x.aX==0)
def EM (r:aq) (p:aB):Int:=
 if br r p.inst then (if !oU (bf r p.inst)&&!(p.bg==0) then 20 else if bL (gZ p (bf r p.inst).mult (ef (bf r p.inst)))&&bL (p.bg*ef (bf r p.inst)) then 0 else 1) else 10
def oo (r:aq):List aB->Int
 | []=>0
 | p :: t=>if EM r p=0 then oo r t else EM r p
def Bh (r:aq) (p:aB):aQ:=⟨p.who,(bf r p.inst).cur,gZ p (bf r p.inst).mult (ef (bf r p.inst))⟩
def nJ (r:aq) (p:aB):List aB:=if p.bg==0&&p.bg*ef (bf r p.inst)==0 then [] else [⟨p.who,p.inst,p.bg,p.bg*ef (bf r p.inst)⟩]
def wO (r:aq) (b:aF):Int:=if r.okB&&b.okB then oo r b.qs else 14
def y6 (r:aq) (b:aF):aF:=if wO r b=0 then ⟨b.next,b.ts,b.qs.flatMap (nJ r)⟩ else ⟨0,[],[]⟩
def qA (r:aq) (b:aF):List aQ:=if wO r b=0 then b.qs.map (Bh r) else []
theorem nC (b:aF) (h:b.small):Abs.Spec Tryz.prog 124 [] [.agg b.cells] [] (.agg b.cells):=by
 refine Spec.frozen (qq b h) [0,1] rfl ?_;intro r;rcases r with _ | _ | r<;>rfl
theorem LQ {x:ay} (h:x.ok=true):0<=ef x/\ef x<=1073741824:=by
 simp only [ay.ok,within,cr,decide_eq_true_eq] at h;unfold ef;split<;>omega
theorem G5 {b:aF} (h:b.okB=true):∀ p∈b.qs,p.okB=true:=by
 intro p hp;simp only [aF.okB,cr] at h;obtain ⟨i,hi,rfl⟩:=List.mem_iff_getElem.1 hp;exact K3 h.1 hi
theorem Eo {p:aB} (h:p.okB=true):-1099511627776<=p.bg/\p.bg<=1099511627776/\bL p.cost=true:=by
 simp only [aB.okB,within,cr,decide_eq_true_eq] at h;exact ⟨h.2.1.1,h.2.1.2,h.2.2.1⟩
theorem OM (r:aq) (b:aF) (h:r.jt) (hb:b.small) (hr:∀ p∈b.qs,p.cU):Abs.Spec Tryz.prog 193 [] [.agg r.cells,.agg b.cells] [.own 4 ((y6 r b).qs.map aB.cells),.own 3 ((qA r b).map aQ.cells)] (.bI [.agg [.int .i64 (y6 r b).next,.sl 7 ((y6 r b).ts.map aL.cells),.ref 0],.ref 1,.int .i64 (wO r b)]):=by
 have c1:=dL r h.small;have c2:=iA b hb hr;have c3:=fun n=>dz r n h.small
 have c4:=nC b hb;have hql:=hb.2;simp only [aq.cells,aF.cells] at c1 c2 c3 c4 |-;refine bu 117 2 [.cell 4 33,.tmp 5,.tmp 6] mixed Tryz.func193 ?_;simp only [go_sem,seval];(with_reducible and_intros)<;>first|exact .dq|omega|skip
 refine aa.pure c1 ?_;cases b1:r.okB
 ·have e:wO r b=14:=by simp [wO,b1]
  simp only [go_sem,seval,y6,qA,e]
  all_goals simp
 simp only [go_sem,seval];(with_reducible and_intros)<;>first|exact .dq|omega|skip
 refine aa.pure c2 ?_;cases b2:b.okB
 ·have e:wO r b=14:=by simp [wO,b1,b2]
  simp only [go_sem,seval,y6,qA,e]
  all_goals simp
 have e:wO r b=oo r b.qs:=by simp [wO,b1,b2]
 have hpos:=G5 b2;simp only [y6,qA];rw [e];clear e c1 c2;simp only [go_sem,seval];(with_reducible and_intros)<;>first|exact .dq|omega|skip
 refine aa.pure c4 ?_;clear c4;simp only [go_sem,seval];(with_reducible and_intros)<;>first|exact .dq|omega|skip
 refine aC.walk (S:=Unit) b.qs.length [2,3,4,7] [48,64,80] (fun i _=>[(9,.int .i64 i),(8,.ref 1552)]) (fun i _=>[(128,.box [.int .i64 b.next,.sl 7 (b.ts.map aL.cells),.ref 1824]),(1552,.own 3 (((b.qs.take i).map (Bh r)).map aQ.cells)),(1824,.own 4 (((b.qs.take i).flatMap (nJ r)).map aB.cells))]) (fun i _=>oo r (b.qs.drop i)=oo r b.qs) () rfl ?_ ?_ ?_
 ·simp only [go_sem,seval]<;>simp
 ·intro i _ hi hdi hwi hI;have hm:=aG (c:=aB.cells) b.qs hi;have hli:(i:Int) < (b.qs.length:Int):=by omega
  have hlt:(b.qs.take i).length=i:=by simp;omega
  have hq:=gG (nJ r) hi
  have hql:((b.qs.take i).flatMap (nJ r)).length<=i:=by
   have:=fF (f:=nJ r) (m:=1) (fun p=>by unfold nJ;split<;>simp) (b.qs.take i);omega
  have hD:(b.qs.take (i+1)).map (Bh r)=(b.qs.take i).map (Bh r)++[Bh r b.qs[i]]:=by rw [List.take_succ_eq_append_getElem hi,List.map_append];rfl
  obtain ⟨n1,n2,n3⟩:=Eo (hpos b.qs[i] (List.getElem_mem hi));obtain ⟨p,hp⟩:=aH (b.qs[i]);obtain ⟨Q,hQ⟩:=aH ((b.qs.take i).flatMap (nJ r));obtain ⟨L,hL⟩:=aH ((b.qs.take i).map (Bh r));have hLl:L.length=i:=by rw [hL];simp;omega
  have c3k:=c3 p.inst;have hxok:=fun hh=>vN (r:=r) (n:=p.inst) b1 hh
  obtain ⟨x,hx⟩:=aH (bf r p.inst);rw [dN hi,<- hp] at hI;simp only [oo,EM,<- hx] at hI;rw [<- hp,<- hQ] at hq;rw [<- hp,<- hL] at hD;rw [<- hQ] at hql;simp only [nJ,<- hx] at hq;simp only [Bh,<- hx] at hD;rw [<- hp] at hm n1 n2 n3;rw [<- hx] at c3k hxok;rw [<- hQ,<- hL];simp only [aB.cells] at hm;simp only [ay.cells] at c3k;clear c3 hQ hL hp hpos;simp only [go_sem,seval,aJ,hdi,hm];(with_reducible and_intros)<;>first|exact .dq|omega|skip
  refine aa.pure c3k ?_;cases q1:br r p.inst
  ·simp only [q1,fZ,if_false] at hI;have hE:oo r b.qs=10:=hI.symm;simp only [go_sem,seval,q1,hE]
   all_goals simp
  simp only [q1,if_true] at hI;have hxok:=hxok q1;have hpr:=LQ hxok;have hmu:=(l9 hxok).1;have c5:=xB x;have c6:=xp p x.mult (ef x) ⟨by omega,by omega⟩ n3 (by omega) hpr;have c7:=Du p.bg (ef x) ⟨by omega,by omega⟩ ⟨by omega,by omega⟩;have ep:(if x.set==0 then x.aX else x.set)=ef x:=rfl;have eh:(!(x.set==0&&x.aX==0))=oU x:=rfl;rw [ep,eh] at c5;obtain ⟨W,hW⟩:=aH (gZ p x.mult (ef x));obtain ⟨C,hC⟩:=aH (p.bg*ef x);rw [<- hW] at c6;rw [<- hC] at c7;rw [<- hW,<- hC] at hI;rw [<- hC] at hq;rw [<- hW] at hD;simp only [ay.cells] at c5;simp only [aB.cells] at c6;clear ep eh hW hC;simp only [go_sem,seval,q1];(with_reducible and_intros)<;>first|exact .dq|omega|skip
  refine aa.pure c5 ?_;cases q2:oU x
  case false =>
   cases q3:p.bg==0
   ·simp only [q2,q3,Bool.not_false,Bool.and_self,if_true] at hI;have hE:oo r b.qs=20:=hI.symm;simp only [go_sem,seval,q2,bne,q3,hE]
    all_goals simp
   simp only [q2,q3,Bool.not_true,Bool.and_false,fZ,if_false] at hI;simp only [go_sem,seval,q2,bne,q3];(with_reducible and_intros)<;>first|exact .dq|omega|skip
   refine aa.pure c6 ?_;simp only [go_sem,seval];(with_reducible and_intros)<;>first|exact .dq|omega|skip
   refine aa.pure c7 ?_;cases q4:bL W
   ·simp only [q4,Bool.false_and,fZ,if_false] at hI;have hE:oo r b.qs=1:=hI.symm;simp only [go_sem,seval,q4,hE]
    all_goals simp
   cases q5:bL C
   ·simp only [q4,q5,Bool.and_false,fZ,if_false] at hI;have hE:oo r b.qs=1:=hI.symm;simp only [go_sem,seval,q4,q5,hE]
    all_goals simp
   simp only [q4,q5,Bool.and_self,if_true] at hI;cases q6:C==0
   ·simp only [q3,q6,Bool.and_false,fZ,if_false] at hq;simp only [go_sem,seval,q4,q5,bne,q3,q6,hwi,aJ];(with_reducible and_intros)<;>first|exact .dq|omega|skip
    refine ah.step () hi hI ?_;simp only [go_sem,seval,hq,hD]<;>simp
   ·simp only [q3,q6,Bool.and_self,if_true,List.append_nil] at hq;simp only [go_sem,seval,q4,q5,bne,q3,q6,hwi,aJ];(with_reducible and_intros)<;>first|exact .dq|omega|skip
    refine ah.step () hi hI ?_;simp only [go_sem,seval,hq,hD]<;>simp
  simp only [q2,Bool.not_true,Bool.false_and,fZ,if_false] at hI;simp only [go_sem,seval,q2];(with_reducible and_intros)<;>first|exact .dq|omega|skip
  refine aa.pure c6 ?_;simp only [go_sem,seval];(with_reducible and_intros)<;>first|exact .dq|omega|skip
  refine aa.pure c7 ?_;cases q4:bL W
  ·simp only [q4,Bool.false_and,fZ,if_false] at hI;have hE:oo r b.qs=1:=hI.symm;simp only [go_sem,seval,q4,hE]
   all_goals simp
  cases q5:bL C
  ·simp only [q4,q5,Bool.and_false,fZ,if_false] at hI;have hE:oo r b.qs=1:=hI.symm;simp only [go_sem,seval,q4,q5,hE]
   all_goals simp
  simp only [q4,q5,Bool.and_self,if_true] at hI
  cases q3:p.bg==0<;>cases q6:C==0<;>(
   simp only [q3,q6,Bool.and_self,Bool.and_false,Bool.false_and,fZ,if_false,if_true,List.append_nil] at hq;simp only [go_sem,seval,q4,q5,bne,q3,q6,hwi,aJ];(with_reducible and_intros)<;>first|exact .dq|omega|skip
   try refine ah.step () hi hI ?_
   try simp only [go_sem,seval,hq,hD])
  all_goals simp
 ·intro _ hdx hI;rw [List.drop_length] at hI;have hE:oo r b.qs=0:=hI.symm;simp only [go_sem,seval,aJ,hdx,hE,List.take_length]
  all_goals simp
theorem Lw (r:aq) (b:aF) (h:r.jt) (hb:b.small) (hr:∀ p∈b.qs,p.cU):Abs.Spec Tryz.prog 193 [] [.agg r.cells,.agg b.cells] [] (.bI [.agg (y6 r b).cells,.sl 3 ((qA r b).map aQ.cells),.int .i64 (wO r b)]):=by
 refine Spec.frozen (OM r b h hb hr) [0,1] rfl ?_;intro r;rcases r with _ | _ | r<;>rfl
def mB (w c:Int) (x:aA):Bool:=x.who==w&&x.cur==c
def dc (w c:Int):List aA->Int
 | []=>-1
 | x :: r=>if mB w c x then 0 else if dc w c r < 0 then -1 else dc w c r+1
theorem C0 {w c:Int}:∀ {xs:List aA} {i:Nat} (h:i < xs.length),(∀ j (hj:j < xs.length),j < i->mB w c xs[j]=false)->mB w c xs[i]=true->dc w c xs=i
 | [],i,h,_,_=>by simp at h
 | x :: r,0,h,_,he=>by
  have he:mB w c x=true:=he;simp [dc,he]
 | x :: r,i+1,h,hn,he=>by
  have h0:mB w c x=false:=hn 0 (by simp) (by omega);have h2:=C0 (xs:=r) (i:=i) (by simpa using h) (fun j hj hji=>hn (j+1) (by simpa using hj) (by omega)) he;simp only [dc,h0,h2];rw [if_neg (by simp),if_neg (by omega)];omega
theorem zG {w c:Int}:∀ {xs:List aA},(∀ j (hj:j < xs.length),mB w c xs[j]=false)->dc w c xs = -1
 | [],_=>rfl
 | x :: r,hn=>by
  have h0:mB w c x=false:=hn 0 (by simp);have h2:=zG (xs:=r) (fun j hj=>hn (j+1) (by simpa using hj));simp [dc,h0,h2]
theorem ou {w c:Int}:∀ {xs:List aA},¬ dc w c xs < 0->∃ (i:Nat) (h:i < xs.length),dc w c xs=i/\mB w c xs[i]=true
 | [],h=>by simp [dc] at h
 | t :: r,h=>by
  simp only [dc] at h |-;split at h
  ·rename_i h1;exact ⟨0,by simp,by rw [if_pos h1];rfl,h1⟩
  ·rename_i h1;split at h
   ·omega
   ·rename_i h2;obtain ⟨i,hi,e,ho⟩:=ou (xs:=r) h2;refine ⟨i+1,by simp;omega,?_,by simpa using ho⟩;rw [if_neg h1,if_neg h2,e];rfl
def mm (w c:Int) (xs:List aA):aA:=xs.getD (dc w c xs).toNat ⟨0,0,0,0⟩
theorem lQ (w c:Int) (xs:List aA) (hl:xs.length < 2 ^ 40):Abs.Spec Tryz.prog 228 [] [.int .i64 w,.int .i64 c,.sl 4 (xs.map aA.cells)] [] (.int .i64 (dc w c xs)):=by
 refine bu 33 3 [.tmp 6] mixed Tryz.func228 ?_;simp only [go_sem,seval,aJ];refine aC.walk (S:=Unit) xs.length [0,1,2] [] (fun i _=>[(7,.int .i64 i)]) (fun _ _=>[]) (fun i _=>∀ j (hj:j < xs.length),j < i->mB w c xs[j]=false) () (by intros;omega) ?_ ?_ ?_
 ·simp only [go_sem,seval]<;>simp
 ·intro i _ hi hdi hwi hI;have hm:=aG (c:=aA.cells) xs hi;have hli:(i:Int) < (xs.length:Int):=by omega
  have hhit:=C0 hi hI
  have hnext:mB w c xs[i]=false->∀ j (hj:j < xs.length),j < i+1->mB w c xs[j]=false:=fun h0 j hj hji=>by
   rcases Nat.lt_or_ge j i with h | h
   ·exact hI j hj h
   ·obtain rfl:j=i:=by omega
    exact h0
  obtain ⟨x,hx⟩:=aH (xs[i]);rw [<- hx] at hm hhit hnext;simp only [mB] at hhit hnext;simp only [aA.cells] at hm;cases q1:x.who==w
  ·simp only [go_sem,seval,aJ,hdi,hm,q1,hwi];(with_reducible and_intros)<;>first|exact .dq|omega|skip
   refine ah.step () hi (hnext (by simp [q1])) ?_;simp only [go_sem,seval]
  cases q2:x.cur==c
  ·simp only [go_sem,seval,aJ,hdi,hm,q1,q2,hwi];(with_reducible and_intros)<;>first|exact .dq|omega|skip
   refine ah.step () hi (hnext (by simp [q2])) ?_;simp only [go_sem,seval]
  simp only [go_sem,seval,aJ,hdi,hm,q1,q2,hhit (by simp [q1,q2])];(with_reducible and_intros)<;>first|exact .dq|omega|skip
 ·intro _ hdx hI;simp only [go_sem,seval,aJ,hdx,zG (fun j hj=>hI j hj hj)]
def Kp (xs:List aA) (x:aA) (w c:Int):List aA:=if x.who==w&&x.cur==c then (if 0 < x.cm then [x] else []) else if dc w c xs < 0 then [] else [mm w c xs]
def BW (xs:List aA) (x:aA) (w:Int) (i:Nat):List aA:=pq (fun k=>Kp xs x w k) i
def B8 (xs:List aA) (x:aA) (i:Nat):List aA:=pq (fun k=>BW xs x ((k:Int)+1) 3) i
theorem LL (xs:List aA) (x:aA) (w c:Int):(Kp xs x w c).length<=1:=by
 unfold Kp;split
 ·split<;>simp
 ·split<;>simp
theorem Na (xs:List aA) (x:aA) (w:Int) (i:Nat):(BW xs x w i).length<=i:=by
 have:=lF (f:=fun k=>Kp xs x w (k:Nat)) (m:=1) (fun k=>LL _ _ _ _) i;simpa [BW] using this
theorem Mk (xs:List aA) (x:aA) (i:Nat):(B8 xs x i).length<=3*i:=lF (fun k=>Na _ _ _ _) i
theorem Pb (xs:List aA) (x:aA) (hl:xs.length < 2 ^ 30):Abs.Spec Tryz.prog 229 [] [.sl 4 (xs.map aA.cells),.agg x.cells] [.own 4 ((B8 xs x 16).map aA.cells)] (.ref 0):=by
 have c1:=fun w c=>lQ w c xs (by omega)
 refine bu 51 2 [.tmp 4] mixed Tryz.func229 ?_;simp only [aA.cells];simp only [go_sem,seval];refine aC.walk (S:=Unit) 16 [0,3] [64] (fun i _=>[(6,.int .i64 ((i:Int)+1)),(5,.ref 592)]) (fun i _=>[(592,.own 4 ((B8 xs x i).map aA.cells))]) (fun _ _=>True) () trivial ?_ ?_ ?_
 ·simp only [go_sem,seval,B8,kW]<;>simp
 ·intro i _ hi _ _ _;obtain ⟨w,hw⟩:=aH ((i:Int)+1);have hd:decide (w<=16)=true:=decide_eq_true (by omega);have hww:IntKind.wrap .i64 (w+1)=((i+1:Nat):Int)+1:=by rw [bn (by omega) (by omega)];omega
  have hnx:B8 xs x (i+1)=B8 xs x i++BW xs x w 3:=by rw [hw];exact jo _ i
  have hwl:=Mk xs x i;obtain ⟨W,hW⟩:=aH (B8 xs x i);rw [<- hW] at hnx hwl |-;rw [<- hw];simp only [go_sem,seval,hd];refine aC.walk (S:=Unit) 3 [0,3,6] [64] (fun j _=>[(7,.int .i64 j),(5,.ref 592)]) (fun j _=>[(592,.own 4 ((W++BW xs x w j).map aA.cells))]) (fun _ _=>True) () trivial ?_ ?_ ?_
  ·simp only [go_sem,seval,BW,kW]<;>simp
  ·intro c _ hc hdc hwc _;have hdc:decide ((c:Int) < 3)=true:=hdc;have hnc:BW xs x w (c+1)=BW xs x w c++Kp xs x w c:=jo _ c;have hlc:=Na xs x w c;obtain ⟨V,hV⟩:=aH (W++BW xs x w c);have hVl:V.length<=100:=by rw [hV,List.length_append];omega
   have hnV:W++BW xs x w (c+1)=V++Kp xs x w c:=by rw [hnc,hV,List.append_assoc]
   have c1:=c1 w c;rw [<- hV];clear hV hnc hW hnx;simp only [Kp] at hnV
   have rest:(x.who==w&&x.cur==(c:Int))=false->∀ {Q:Prop},(dc w c xs < 0->W++BW xs x w (c+1)=V->Q)->(∀ (k:Nat) (hk:k < xs.length),dc w c xs=k->W++BW xs x w (c+1)=V++[xs[k]]->Q)->Q:=fun h0 Q f1 f2=>by
    by_cases h:dc w c xs < 0
    ·rw [h0,if_neg (by simp),if_pos h,List.append_nil] at hnV;exact f1 h hnV
    ·obtain ⟨k,hk,hk2,_⟩:=ou h;rw [h0,if_neg (by simp),if_neg h] at hnV;exact f2 k hk hk2 (by rw [hnV,mm,hk2];simp [hk])
   have hsw:(w==x.who)=(x.who==w):=by rw [Bool.eq_iff_iff];simp only [beq_iff_eq];exact eq_comm
   cases q1:x.who==w
   ·refine rest (by simp [q1]) (fun h hn=>?_) (fun k hk h hn=>?_)
    ·have d:decide (0<=dc w c xs)=false:=decide_eq_false (by omega);simp only [go_sem,seval,hdc,hsw,q1];(with_reducible and_intros)<;>first|exact .dq|omega|skip
     refine aa.pure c1 ?_;simp only [go_sem,seval,d,hwc];refine ah.step () hc trivial ?_;simp only [go_sem,seval,hn]
    ·have hm:=aG (c:=aA.cells) xs hk;have hlk:(k:Int) < (xs.length:Int):=by omega
     simp only [aA.cells] at hm;rw [h] at c1;simp only [go_sem,seval,hdc,hsw,q1];(with_reducible and_intros)<;>first|exact .dq|omega|skip
     refine aa.pure c1 ?_;simp only [go_sem,seval,hwc,hm,aJ];(with_reducible and_intros)<;>first|exact .dq|omega|skip
     refine ah.step () hc trivial ?_;simp only [go_sem,seval,hn]<;>simp
   cases q2:x.cur==(c:Int)
   ·have q3:((c:Int)==x.cur)=false:=by rw [<- q2,Bool.eq_iff_iff];simp;omega
    refine rest (by simp [q2]) (fun h hn=>?_) (fun k hk h hn=>?_)
    ·have d:decide (0<=dc w c xs)=false:=decide_eq_false (by omega);simp only [go_sem,seval,hdc,hsw,q1,q2,q3];(with_reducible and_intros)<;>first|exact .dq|omega|skip
     refine aa.pure c1 ?_;simp only [go_sem,seval,d,hwc];refine ah.step () hc trivial ?_;simp only [go_sem,seval,hn]
    ·have hm:=aG (c:=aA.cells) xs hk;have hlk:(k:Int) < (xs.length:Int):=by omega
     simp only [aA.cells] at hm;rw [h] at c1;simp only [go_sem,seval,hdc,hsw,q1,q2,q3];(with_reducible and_intros)<;>first|exact .dq|omega|skip
     refine aa.pure c1 ?_;simp only [go_sem,seval,hwc,hm,aJ];(with_reducible and_intros)<;>first|exact .dq|omega|skip
     refine ah.step () hc trivial ?_;simp only [go_sem,seval,hn]<;>simp
   have q3:((c:Int)==x.cur)=true:=by rw [<- q2,Bool.eq_iff_iff];simp;omega
   have q4:(w==x.who)=true:=by rw [<- q1,Bool.eq_iff_iff];simp;omega
   by_cases q5:0 < x.cm
   ·have d:decide (0 < x.cm)=true:=decide_eq_true q5;simp only [q1,q2,Bool.and_self,if_true,if_pos q5] at hnV;simp only [go_sem,seval,hdc,q1,q2,q3,q4,d,hwc,aJ];(with_reducible and_intros)<;>first|exact .dq|omega|skip
    refine ah.step () hc trivial ?_;simp only [go_sem,seval,hnV]<;>simp
   ·have d:decide (0 < x.cm)=false:=decide_eq_false q5;simp only [q1,q2,Bool.and_self,if_true,if_neg q5,List.append_nil] at hnV;simp only [go_sem,seval,hdc,q1,q2,q3,q4,d,hwc];refine ah.step () hc trivial ?_;simp only [go_sem,seval,hnV]
  ·intro _ hdc _;have hdc:decide ((3:Int) < 3)=false:=hdc;simp only [go_sem,seval,hdc,hww];refine ah.step () hi trivial ?_;simp only [go_sem,seval,hnx]
 ·intro _ _ _;simp only [go_sem,seval]
theorem Dd (xs:List aA) (x:aA) (hl:xs.length < 2 ^ 30):Abs.Spec Tryz.prog 229 [] [.sl 4 (xs.map aA.cells),.agg x.cells] [] (.sl 4 ((B8 xs x 16).map aA.cells)):=by
 refine Spec.frozen (Pb xs x hl) [0] rfl ?_;intro r;rcases r with _ | r<;>rfl
def Bu (d:aQ):Bool:=(within d.who 1 16&&within d.cur 0 2)&&within d.cm 0 4611686018427387904
theorem rq (d:aQ):Abs.Spec Tryz.prog 227 [] [.agg d.cells] [] (.bool (Bu d)):=by
 have c1:=fO d.who;have c2:=fK d.cur;have c3:=eV d.cm 0 4611686018427387904;simp only [aQ.cells,Bu];refine bu 16 1 [.tmp 2] mixed Tryz.func227 ?_;simp only [go_sem,seval];(with_reducible and_intros)<;>first|exact .dq|omega|skip
 refine aa.pure c1 ?_;cases q1:within d.who 1 16
 ·simp only [go_sem,seval,Bool.false_and]
 simp only [go_sem,seval];(with_reducible and_intros)<;>first|exact .dq|omega|skip
 refine aa.pure c2 ?_;cases q2:within d.cur 0 2
 ·simp only [go_sem,seval,Bool.false_and,Bool.and_false]
 simp only [go_sem,seval];(with_reducible and_intros)<;>first|exact .dq|omega|skip
 refine aa.pure c3 ?_;simp only [go_sem,seval,Bool.true_and]
def FV (xs:List aA) (d:aQ) (at_:Int):Int:=if mO bV bQ xs then (if Bu d&&within at_ 0 1099511627776 then 0 else 3) else 14
def DM (xs:List aA) (d:aQ) (at_:Int):List aA:=if FV xs d at_=0 then B8 xs ⟨d.who,d.cur,d.cm,if dc d.who d.cur xs < 0 then at_ else (mm d.who d.cur xs).till⟩ 16 else []
theorem MH (xs:List aA) (d:aQ) (at_:Int) (hl:xs.length < 2 ^ 30):Abs.Spec Tryz.prog 198 [] [.sl 4 (xs.map aA.cells),.agg d.cells,.int .i64 at_] [] (.bI [.sl 4 ((DM xs d at_).map aA.cells),.int .i64 (FV xs d at_)]):=by
 have c1:=qi xs hl;have c2:=rq d;have c3:=eV at_ 0 1099511627776;have c4:=lQ d.who d.cur xs (by omega);have c5:=fun x=>Dd xs x hl
 simp only [aQ.cells,aA.cells] at c2 c5 |-;refine bu 38 3 [.tmp 6,.tmp 7] mixed Tryz.func198 ?_;simp only [go_sem,seval];(with_reducible and_intros)<;>first|exact .dq|omega|skip
 refine aa.pure c1 ?_;cases b1:mO bV bQ xs
 ·have e:FV xs d at_=14:=by simp [FV,b1]
  simp only [go_sem,seval,DM,e]<;>simp
 simp only [go_sem,seval];(with_reducible and_intros)<;>first|exact .dq|omega|skip
 refine aa.pure c2 ?_;cases b2:Bu d
 ·have e:FV xs d at_=3:=by simp [FV,b1,b2]
  simp only [go_sem,seval,DM,e]<;>simp
 simp only [go_sem,seval];(with_reducible and_intros)<;>first|exact .dq|omega|skip
 refine aa.pure c3 ?_;cases b3:within at_ 0 1099511627776
 ·have e:FV xs d at_=3:=by simp [FV,b1,b2,b3]
  simp only [go_sem,seval,DM,e]<;>simp
 have e:FV xs d at_=0:=by simp [FV,b1,b2,b3]
 simp only [DM,e];simp only [go_sem,seval];(with_reducible and_intros)<;>first|exact .dq|omega|skip
 refine aa.pure c4 ?_
 by_cases h:dc d.who d.cur xs < 0
 ·have dd:decide (0<=dc d.who d.cur xs)=false:=decide_eq_false (by omega);have c5:=c5 ⟨d.who,d.cur,d.cm,at_⟩;rw [if_pos h];simp only [go_sem,seval,dd];(with_reducible and_intros)<;>first|exact .dq|omega|skip
  refine aa.pure c5 ?_;simp only [go_sem,seval]
 ·obtain ⟨k,hk,hk2,_⟩:=ou h;have hm:=aG (c:=aA.cells) xs hk;have hlk:(k:Int) < (xs.length:Int):=by omega
  have hc:mm d.who d.cur xs=xs[k]:=by rw [mm,hk2];simp [hk]
  have c5:=c5 ⟨d.who,d.cur,d.cm,xs[k].till⟩;simp only [aA.cells] at hm;rw [if_neg h,hc];simp only [go_sem,seval,hk2,hm,aJ];(with_reducible and_intros)<;>first|exact .dq|omega|skip
  refine aa.pure c5 ?_;simp only [go_sem,seval]
def qS (xs:List aA) (d:aQ):Int:=if mO bV bQ xs then (if Bu d then 0 else 3) else 14
def Nf (xs:List aA) (d:aQ):aA:=if dc d.who d.cur xs < 0 then ⟨d.who,d.cur,0,0⟩ else { mm d.who d.cur xs with cm:=max ((mm d.who d.cur xs).cm-d.cm) 0 }
def sX (xs:List aA) (d:aQ):List aA:=if qS xs d=0 then B8 xs (Nf xs d) 16 else []
theorem Ac (xs:List aA) (d:aQ) (hl:xs.length < 2 ^ 30):Abs.Spec Tryz.prog 182 [] [.sl 4 (xs.map aA.cells),.agg d.cells] [] (.bI [.sl 4 ((sX xs d).map aA.cells),.int .i64 (qS xs d)]):=by
 have c1:=qi xs hl;have c2:=rq d;have c4:=lQ d.who d.cur xs (by omega);have c5:=fun x=>Dd xs x hl
 simp only [aQ.cells,aA.cells] at c2 c5 |-;refine bu 46 2 [.tmp 4,.tmp 5] mixed Tryz.func182 ?_;simp only [go_sem,seval];(with_reducible and_intros)<;>first|exact .dq|omega|skip
 refine aa.pure c1 ?_;cases b1:mO bV bQ xs
 ·have e:qS xs d=14:=by simp [qS,b1]
  simp only [go_sem,seval,sX,e]<;>simp
 simp only [go_sem,seval];(with_reducible and_intros)<;>first|exact .dq|omega|skip
 refine aa.pure c2 ?_;cases b2:Bu d
 ·have e:qS xs d=3:=by simp [qS,b1,b2]
  simp only [go_sem,seval,sX,e]<;>simp
 have e:qS xs d=0:=by simp [qS,b1,b2]
 simp only [sX,e];simp only [go_sem,seval];(with_reducible and_intros)<;>first|exact .dq|omega|skip
 refine aa.pure c4 ?_
 by_cases h:dc d.who d.cur xs < 0
 ·have dd:decide (dc d.who d.cur xs < 0)=true:=decide_eq_true h;have c5:=c5 ⟨d.who,d.cur,0,0⟩;simp only [Nf];rw [if_pos h];simp only [go_sem,seval,dd];(with_reducible and_intros)<;>first|exact .dq|omega|skip
  refine aa.pure c5 ?_;simp only [go_sem,seval]
 ·obtain ⟨k,hk,hk2,_⟩:=ou h;have hm:=aG (c:=aA.cells) xs hk;have hlk:(k:Int) < (xs.length:Int):=by omega
  have hc:mm d.who d.cur xs=xs[k]:=by rw [mm,hk2];simp [hk]
  have hok:=K3 b1 hk;simp only [bV,within,cr,decide_eq_true_eq] at hok;simp only [Bu,within,cr,decide_eq_true_eq] at b2;simp only [Nf];rw [if_neg h,hc];obtain ⟨x,hx⟩:=aH (xs[k]);rw [<- hx] at hm hok |-;have hw:IntKind.wrap .i64 (x.cm-d.cm)=x.cm-d.cm:=bn (by omega) (by omega);have c5:=c5 { x with cm:=max (x.cm-d.cm) 0 };simp only [aA.cells] at hm c5;have dd:decide ((k:Int) < 0)=false:=decide_eq_false (by omega);simp only [go_sem,seval,hk2,dd,hm,aJ,hw];(with_reducible and_intros)<;>first|exact .dq|omega|skip
  refine aa.pure c5 ?_;simp only [go_sem,seval]
def nG (n:Int) (xs:List aA):List aA:=xs.flatMap fun x=>if x.till<=n then [x] else []
def CQ (n:Int) (xs:List aA):List aA:=xs.flatMap fun x=>if x.till<=n then [] else [x]
theorem Nq (n:Int) (xs:List aA) (hl:xs.length < 2 ^ 30):Abs.Spec Tryz.prog 200 [] [.int .i64 n,.sl 4 (xs.map aA.cells)] [.own 4 ((nG n xs).map aA.cells),.own 4 ((CQ n xs).map aA.cells)] (.bI [.ref 0,.ref 1]):=by
 refine bu 38 2 [.tmp 4,.tmp 5] mixed Tryz.func200 ?_;simp only [go_sem,seval,aJ];refine aC.walk (S:=Unit) xs.length [0,1] [] (fun i _=>[(8,.int .i64 i),(6,.ref 464),(7,.ref 576)]) (fun i _=>[(464,.own 4 ((nG n (xs.take i)).map aA.cells)),(576,.own 4 ((CQ n (xs.take i)).map aA.cells))]) (fun _ _=>True) () trivial ?_ ?_ ?_
 ·simp only [go_sem,seval]<;>simp [nG,CQ]
 ·intro i _ hi hdi hwi _;have hm:=aG (c:=aA.cells) xs hi;have hli:(i:Int) < (xs.length:Int):=by omega
  have hlt:(xs.take i).length=i:=by simp;omega
  have hA:nG n (xs.take (i+1))=nG n (xs.take i)++_:=gG _ hi;have hB:CQ n (xs.take (i+1))=CQ n (xs.take i)++_:=gG _ hi;have hAl:(nG n (xs.take i)).length<=1*(xs.take i).length:=fF (fun x=>by split<;>simp) _;have hBl:(CQ n (xs.take i)).length<=1*(xs.take i).length:=fF (fun x=>by split<;>simp) _;obtain ⟨L,hL⟩:=aH (nG n (xs.take i));obtain ⟨M,hM⟩:=aH (CQ n (xs.take i));obtain ⟨x,hx⟩:=aH (xs[i]);rw [<- hL] at hA hAl;rw [<- hM] at hB hBl;rw [<- hx] at hA hB hm;rw [<- hL,<- hM];simp only [aA.cells] at hm
  by_cases q:x.till<=n
  ·have d:decide (x.till<=n)=true:=decide_eq_true q;rw [if_pos q] at hA hB;simp only [go_sem,seval,aJ,hdi,hm,d,hwi];(with_reducible and_intros)<;>first|exact .dq|omega|skip
   refine ah.step () hi trivial ?_;simp only [go_sem,seval,hA,hB]<;>simp
  ·have d:decide (x.till<=n)=false:=decide_eq_false q;rw [if_neg q] at hA hB;simp only [go_sem,seval,aJ,hdi,hm,d,hwi];(with_reducible and_intros)<;>first|exact .dq|omega|skip
   refine ah.step () hi trivial ?_;simp only [go_sem,seval,hA,hB]<;>simp
 ·intro _ hdx _;simp only [go_sem,seval,aJ,hdx,List.take_length]
theorem Lf (n:Int) (xs:List aA) (hl:xs.length < 2 ^ 30):Abs.Spec Tryz.prog 200 [] [.int .i64 n,.sl 4 (xs.map aA.cells)] [] (.bI [.sl 4 ((nG n xs).map aA.cells),.sl 4 ((CQ n xs).map aA.cells)]):=by
 refine Spec.frozen (Nq n xs hl) [0,1] rfl ?_;intro r;rcases r with _ | _ | r<;>rfl
def eL (xs:List aA) (ws:List Int):List aA:=xs.flatMap fun x=>if lR ws x.who then [] else [x]
theorem vp (xs:List aA) (ws:List Int) (hl:xs.length < 2 ^ 30) (hs:ws.length < 2 ^ 30):Abs.Spec Tryz.prog 202 [] [.sl 4 (xs.map aA.cells),.sl 1 (ints ws)] [.own 4 ((eL xs ws).map aA.cells)] (.ref 0):=by
 refine bu 45 2 [.tmp 4] mixed Tryz.func202 ?_;simp only [go_sem,seval,aJ];refine aC.walk (S:=Unit) xs.length [0,1] [] (fun i _=>[(6,.int .i64 i),(5,.ref 704)]) (fun i _=>[(704,.own 4 ((eL (xs.take i) ws).map aA.cells))]) (fun _ _=>True) () trivial ?_ ?_ ?_
 ·simp only [go_sem,seval]<;>simp [eL]
 ·intro i _ hi hdi hwi _;have hm:=aG (c:=aA.cells) xs hi;have hli:(i:Int) < (xs.length:Int):=by omega
  have hlt:(xs.take i).length=i:=by simp;omega
  have hA:eL (xs.take (i+1)) ws=eL (xs.take i) ws++_:=gG _ hi;have hAl:(eL (xs.take i) ws).length<=1*(xs.take i).length:=fF (fun x=>by split<;>simp) _;obtain ⟨L,hL⟩:=aH (eL (xs.take i) ws);obtain ⟨x,hx⟩:=aH (xs[i]);rw [<- hL] at hA hAl |-;rw [<- hx] at hA hm;simp only [aA.cells] at hm;simp only [go_sem,seval,aJ,hdi,av];refine aC.walk (S:=Unit) ws.length [0,1,5,6] [704] (fun k _=>[(8,.int .i64 k),(7,.bool (lR (ws.take k) x.who))]) (fun _ _=>[]) (fun _ _=>True) () trivial ?_ ?_ ?_
  ·simp only [go_sem,seval]<;>simp [lR]
  ·intro k _ hk hdk hwk _;have hst:=vg ws x.who hk;have hlk:(k:Int) < (ws.length:Int):=by omega
   cases hb:lR (ws.take k) x.who
   ·rw [hb,Bool.false_or] at hst;simp only [go_sem,seval,aJ,av,hdk,ints_at ws hk,hm,hwk];(with_reducible and_intros)<;>first|exact .dq|omega|skip
    refine ah.step () hk trivial ?_;simp only [go_sem,seval,hst]
   ·rw [hb,Bool.true_or] at hst;simp only [go_sem,seval,aJ,av,hdk,ints_at ws hk,hm,hwk];(with_reducible and_intros)<;>first|exact .dq|omega|skip
    refine ah.step () hk trivial ?_;simp only [go_sem,seval,hst]
  ·intro _ hdk _;cases b1:lR ws x.who
   ·simp only [b1,fZ,if_false] at hA;simp only [go_sem,seval,av,aJ,hdk,List.take_length,b1,hm,hwi];(with_reducible and_intros)<;>first|exact .dq|omega|skip
    refine ah.step () hi trivial ?_;simp only [go_sem,seval,hA]<;>simp
   ·simp only [b1,if_true,List.append_nil] at hA;simp only [go_sem,seval,av,aJ,hdk,List.take_length,b1,hm,hwi];(with_reducible and_intros)<;>first|exact .dq|omega|skip
    refine ah.step () hi trivial ?_;simp only [go_sem,seval,hA]<;>simp
 ·intro _ hdx _;simp only [go_sem,seval,av,aJ,hdx,List.take_length]
theorem DQ (xs:List aA) (ws:List Int) (hl:xs.length < 2 ^ 30) (hs:ws.length < 2 ^ 30):Abs.Spec Tryz.prog 202 [] [.sl 4 (xs.map aA.cells),.sl 1 (ints ws)] [] (.sl 4 ((eL xs ws).map aA.cells)):=by
 refine Spec.frozen (vp xs ws hl hs) [0] rfl ?_;intro r;rcases r with _ | r<;>rfl
def qb (l:List aQ):Bool:=l.all fun d=>bL d.cm
theorem xm (l:List aQ) (hl:l.length < 2 ^ 40):Abs.Spec Tryz.prog 242 [] [.sl 3 (l.map aQ.cells)] [] (.bool (qb l)):=by
 refine bu 17 1 [.tmp 2] mixed Tryz.func242 ?_;simp only [go_sem,seval,aJ];refine aC.walk (S:=Unit) l.length [0] [] (fun i _=>[(3,.int .i64 i)]) (fun _ _=>[]) (fun i _=>qb (l.drop i)=qb l) () rfl ?_ ?_ ?_
 ·simp only [go_sem,seval]<;>simp
 ·intro i _ hi hdi hwi hI;have hm:=aG (c:=aQ.cells) l hi;obtain ⟨x,hx⟩:=aH (l[i]);have hN:=dn x.cm;have hli:(i:Int) < (l.length:Int):=by omega
  rw [dN hi,<- hx] at hI;rw [<- hx] at hm;have hc:qb (x :: l.drop (i+1))=(bL x.cm&&qb (l.drop (i+1))):=rfl;rw [hc] at hI;simp only [aQ.cells] at hm;simp only [go_sem,seval,aJ,hdi,hm];(with_reducible and_intros)<;>first|exact .dq|omega|skip
  refine aa.pure hN ?_;cases b2:bL x.cm
  ·rw [b2,Bool.false_and] at hI;simp only [go_sem,seval,<- hI]
  rw [b2,Bool.true_and] at hI;simp only [go_sem,seval,hwi];refine ah.step () hi hI ?_;simp only [go_sem,seval]
 ·intro _ hdx hI;rw [List.drop_length] at hI;rw [<- hI];simp only [go_sem,seval,aJ,hdx];rfl
def Ia (w c:Int) (d:aQ):Bool:=d.who==w&&d.cur==c
def wo (w c:Int) (l:List aQ):List Int:=pick (Ia w c) aQ.cm l
def lM (w c:Int) (l:List aQ):Int:=if qb l then (if bL (az (wo w c l)) then 0 else 1) else 3
def jF (w c:Int) (l:List aQ):Int:=if lM w c l=0 then az (wo w c l) else 0
theorem xw (w c:Int) (l:List aQ) (hl:l.length < 2 ^ 29):Abs.Spec Tryz.prog 204 [] [.int .i64 w,.int .i64 c,.sl 3 (l.map aQ.cells)] [] (.bI [.int .i64 (jF w c l),.int .i64 (lM w c l)]):=by
 have hM:=xm l (by omega);refine bu 53 3 [.tmp 6,.tmp 7] mixed Tryz.func204 ?_;simp only [go_sem,seval];refine aa.pure hM ?_;cases b1:qb l
 ·have e:lM w c l=3:=by simp [lM,b1]
  simp only [go_sem,seval,jF,e]<;>simp
 have e:lM w c l=if bL (az (wo w c l)) then 0 else 1:=by simp [lM,b1]
 have hmm:∀ x∈l,bL x.cm=true:=fun x hx=>List.all_eq_true.1 b1 x hx
 have hA:=cE (wo w c l) (lq fun x hx=>oS (hmm x hx)) (by have:=bW (Ia w c) aQ.cm l;unfold wo;omega);simp only [jF];rw [e];clear e hM;simp only [go_sem,seval,aJ];refine aC.walk (S:=Unit) l.length [0,1,2] [] (fun i _=>[(9,.int .i64 i),(8,.ref 720)]) (fun i _=>[(720,.own 1 (ints (wo w c (l.take i))))]) (fun _ _=>True) () trivial ?_ ?_ ?_
 ·simp only [go_sem,seval]<;>simp [wo,pick,ints]
 ·intro i _ hi hdi hwi _;have hm:=aG (c:=aQ.cells) l hi;have hs:ints (wo w c (l.take (i+1)))=ints (wo w c (l.take i))++_:=fU (Ia w c) aQ.cm hi;have hlen:(wo w c (l.take i)).length<=(l.take i).length:=bW (Ia w c) aQ.cm (l.take i);have hlt:(l.take i).length=i:=by simp;omega
  have hli:(i:Int) < (l.length:Int):=by omega
  obtain ⟨x,hx⟩:=aH (l[i]);obtain ⟨L,hL⟩:=aH (wo w c (l.take i));rw [<- hL] at hs hlen |-;rw [<- hx] at hs hm;simp only [aQ.cells] at hm;simp only [Ia] at hs;cases q1:x.who==w
  ·simp only [q1,Bool.false_and,fZ,if_false,List.append_nil] at hs;simp only [go_sem,seval,aJ,hdi,hm,q1,hwi];(with_reducible and_intros)<;>first|exact .dq|omega|skip
   refine ah.step () hi trivial ?_;simp only [go_sem,seval,hs]
  cases q2:x.cur==c
  ·simp only [q1,q2,Bool.and_false,fZ,if_false,List.append_nil] at hs;simp only [go_sem,seval,aJ,hdi,hm,q1,q2,hwi];(with_reducible and_intros)<;>first|exact .dq|omega|skip
   refine ah.step () hi trivial ?_;simp only [go_sem,seval,hs]
  simp only [q1,q2,Bool.and_self,if_true] at hs;simp only [go_sem,seval,aJ,hdi,hm,q1,q2,hwi,av];(with_reducible and_intros)<;>first|exact .dq|omega|skip
  refine ah.step () hi trivial ?_;simp only [go_sem,seval,hs]
 ·intro _ hdx _;simp only [go_sem,seval,hdx,aJ,List.take_length];refine aa.gen [] [] true (by simp) ?_;simp only [go_sem,seval];refine aU.intro hA ?_;cases b2:bL (az (wo w c l))
  ·simp only [go_sem,seval,b2,addN]<;>simp
  ·simp only [go_sem,seval,b2,addN]<;>simp
def jP (a b:aQ):Bool:=decide (a.who < b.who)||(a.who==b.who&&decide (a.cur < b.cur))
theorem gI {a b:aQ}:jP a b=true ↔ a.who < b.who\/(a.who=b.who/\a.cur < b.cur):=by simp [jP]
def aQ.zero:aQ:=⟨0,0,0⟩
def C5 (f:Bool) (last:aQ) (s:Bool × aQ) (d:aQ):Bool:=(f||jP last d)&&(!s.1||jP d s.2)
def iI (f:Bool) (last:aQ):List aQ->Bool × aQ->Bool × aQ
 | [],s=>s
 | d :: r,s=>iI f last r (if C5 f last s d then (true,d) else s)
theorem Cq {f:Bool} {last:aQ}:∀ {l:List aQ} {s:Bool × aQ},(iI f last l s).1=true->iI f last l s=s\/((iI f last l s).2∈l/\(f||jP last (iI f last l s).2)=true)
 | [],s,_=>.inl rfl
 | d :: r,s,h=>by
  simp only [iI] at h |-;rcases Cq (l:=r) h with e | ⟨h1,h2⟩
  ·rw [e];split
   ·rename_i hb;simp only [C5,cr] at hb;exact .inr ⟨by simp,hb.1⟩
   ·exact .inl rfl
  ·exact .inr ⟨by simp [h1],h2⟩
def OT (f:Bool) (last:aQ) (l:List aQ):Nat:=l.countP fun d=>f||jP last d
theorem U7 {A:Type} {p q:A->Bool}:∀ {l:List A} {d:A},(∀ x,p x=true->q x=true)->d∈l->q d=true->p d=false->l.countP p < l.countP q
 | [],d,_,h,_,_=>by cases h
 | x :: r,d,hpq,hm,hq,hp=>by
  have hle:r.countP p<=r.countP q:=List.countP_mono_left fun y _ h=>hpq y h
  simp only [List.countP_cons];rcases List.mem_cons.1 hm with rfl | hm
  ·rw [hq,hp];simp;omega
  ·have:=U7 hpq hm hq hp
   by_cases hx:p x=true
   ·rw [if_pos hx,if_pos (hpq x hx)];omega
   ·rw [if_neg hx];omega
theorem Ju {f:Bool} {last d:aQ} {l:List aQ} (hm:d∈l) (hd:(f||jP last d)=true):OT false d l < OT f last l:=by
 refine U7 (fun x hx=>?_) hm hd ?_
 ·rw [Bool.false_or] at hx;cases f
  ·rw [Bool.false_or] at hd |-;rw [gI] at hx hd |-;omega
  ·rfl
 ·rw [Bool.false_or];cases h:jP d d
  ·rfl
  ·rw [gI] at h;omega
def Nz (l:List aQ) (d:aQ):List aQ:=if jF d.who d.cur l==0 then [] else [⟨d.who,d.cur,jF d.who d.cur l⟩]
def DC (l:List aQ):Nat->Bool->aQ->List aQ->List aQ × Int
 | 0,_,_,out=>(out,0)
 | n+1,f,last,out =>
  if (iI f last l (false,.zero)).1 then
   (if lM (iI f last l (false,.zero)).2.who (iI f last l (false,.zero)).2.cur l=0 then DC l n false (iI f last l (false,.zero)).2 (out++Nz l (iI f last l (false,.zero)).2)
    else ([],lM (iI f last l (false,.zero)).2.who (iI f last l (false,.zero)).2.cur l))
  else (out,0)
def jJ (l:List aQ):List aQ × Int:=if qb l then DC l (l.length+1) true .zero [] else ([],3)
theorem CJ (w c:Int) (l:List aQ):bL (jF w c l)=true:=by
 unfold jF;split
 ·rename_i h;unfold lM at h;split at h
  ·split at h
   ·assumption
   ·cases h
  ·cases h
 ·rfl
theorem Oy (l:List aQ) (hl:l.length < 2 ^ 29):Abs.Spec Tryz.prog 194 [] [.sl 3 (l.map aQ.cells)] [.own 3 ((jJ l).1.map aQ.cells)] (.bI [.ref 0,.int .i64 (jJ l).2]):=by
 have hM:=xm l (by omega);have hG:=fun w c=>xw w c l hl
 have hLs:∀ a b:aQ,Abs.Spec Tryz.prog 243 [] [.agg a.cells,.agg b.cells] [] (.bool (jP a b)):=fun a b=>AI a b
 refine bu 78 1 [.tmp 2,.tmp 3] mixed Tryz.func194 ?_;simp only [go_sem,seval];refine aa.pure hM ?_;cases b1:qb l
 ·have e:jJ l=([],3):=by simp [jJ,b1]
  simp only [go_sem,seval,e]<;>simp
 have e:jJ l=DC l (l.length+1) true .zero []:=by simp [jJ,b1]
 obtain ⟨R,hR⟩:=aH (jJ l);rw [<- hR];rw [<- hR] at e;clear hR hM;simp only [go_sem,seval]
 refine aC.over (T:=Nat × aQ × List aQ) [0,5] [] (fun s=>[(6,.int .i64 ((l.length+1-s.1:Nat):Int)),(4,.ref 1248)]) (fun s=>[(96,.box s.2.1.cells),(1248,.own 3 (s.2.2.map aQ.cells))])
  (fun s=>OT (s.1==l.length+1) s.2.1 l+1<=s.1/\s.1<=l.length+1/\s.2.2.length+s.1<=l.length+1/\DC l s.1 (s.1==l.length+1) s.2.1 s.2.2=R) (fun s=>s.1) (l.length+1,.zero,[]) ?_ ?_ ?_
 ·refine ⟨?_,Nat.le_refl _,by simp,by rw [e];simp⟩;have:OT (l.length+1==l.length+1) aQ.zero l<=l.length:=List.countP_le_length
  show OT (l.length+1==l.length+1) aQ.zero l+1<=l.length+1
  omega
 ·simp only [go_sem,seval,aQ.zero]<;>simp
 rintro ⟨n,last,out⟩ ⟨h1,h2,h3,h4⟩
 dsimp only at h1 h2 h3 h4 |-;obtain ⟨m,rfl⟩:∃ m,n=m+1:=⟨n-1,by omega⟩
 have hk:l.length+1-(m+1)=l.length-m:=by omega
 obtain ⟨f,hf⟩:=aH ((m+1==l.length+1));have hf0:(((l.length-m:Nat):Int)==0)=f:=by rw [hf,Bool.eq_iff_iff];simp;omega
 rw [<- hf] at h1 h4;rw [hk];simp only [go_sem,seval];refine aC.walk (S:=Bool × aQ) l.length [0,4,5,6,8] [96,1248] (fun i s=>[(9,.int .i64 i),(7,.bool s.1)]) (fun i s=>[(144,.box s.2.cells)]) (fun i s=>iI f last (l.drop i) s=iI f last l (false,.zero)) (false,.zero) rfl ?_ ?_ ?_
 ·simp only [go_sem,seval,aQ.zero]<;>simp
 ·rintro i ⟨s1,s2⟩ hi hdi hwi hI
  have hm:=aG (c:=aQ.cells) l hi;have hli:(i:Int) < (l.length:Int):=by omega
  obtain ⟨x,hx⟩:=aH (l[i]);have k1:=hLs last x;have k2:=hLs x s2;rw [dN hi,<- hx] at hI;rw [<- hx] at hm;simp only [iI,C5] at hI;simp only [aQ.cells] at hm k1 k2;clear hG hLs h4;cases f
  ·simp only [go_sem,seval,aJ,hdi,hm,hf0];(with_reducible and_intros)<;>first|exact .dq|omega|skip
   refine aa.pure k1 ?_;cases q1:jP last x
   ·simp only [q1,Bool.false_or,Bool.false_and,fZ,if_false] at hI;simp only [go_sem,seval,q1,hwi];(with_reducible and_intros)<;>first|exact .dq|omega|skip
    refine ah.step (s1,s2) hi hI ?_;simp only [go_sem,seval]
   cases s1
   ·simp only [q1,Bool.false_or,Bool.true_and,Bool.not_false,Bool.true_or,if_true] at hI;simp only [go_sem,seval,aJ,q1,hm,hwi];(with_reducible and_intros)<;>first|exact .dq|omega|skip
    refine ah.step (true,x) hi hI ?_;simp only [go_sem,seval]
   simp only [go_sem,seval,q1,aJ,hm];(with_reducible and_intros)<;>first|exact .dq|omega|skip
   refine aa.pure k2 ?_;cases q2:jP x s2
   ·simp only [q1,q2,Bool.false_or,Bool.true_and,Bool.not_true,fZ,if_false] at hI;simp only [go_sem,seval,q2,hwi];(with_reducible and_intros)<;>first|exact .dq|omega|skip
    refine ah.step (true,s2) hi hI ?_;simp only [go_sem,seval]
   simp only [q1,q2,Bool.false_or,Bool.true_and,Bool.not_true,Bool.or_true,if_true] at hI;simp only [go_sem,seval,q2,hwi,aJ,hm];(with_reducible and_intros)<;>first|exact .dq|omega|skip
   refine ah.step (true,x) hi hI ?_;simp only [go_sem,seval]
  ·cases s1
   ·simp only [Bool.true_or,Bool.true_and,Bool.not_false,if_true] at hI;simp only [go_sem,seval,aJ,hdi,hm,hf0,hwi];(with_reducible and_intros)<;>first|exact .dq|omega|skip
    refine ah.step (true,x) hi hI ?_;simp only [go_sem,seval]
   simp only [go_sem,seval,aJ,hdi,hm,hf0];(with_reducible and_intros)<;>first|exact .dq|omega|skip
   refine aa.pure k2 ?_;cases q2:jP x s2
   ·simp only [q2,Bool.true_or,Bool.true_and,Bool.not_true,Bool.or_false,fZ,if_false] at hI;simp only [go_sem,seval,q2,hwi];(with_reducible and_intros)<;>first|exact .dq|omega|skip
    refine ah.step (true,s2) hi hI ?_;simp only [go_sem,seval]
   simp only [q2,Bool.true_or,Bool.true_and,Bool.not_true,Bool.or_true,if_true] at hI;simp only [go_sem,seval,q2,hwi,aJ,hm];(with_reducible and_intros)<;>first|exact .dq|omega|skip
   refine ah.step (true,x) hi hI ?_;simp only [go_sem,seval]
 ·rintro ⟨s1,s2⟩ hdx hI
  rw [List.drop_length] at hI;have hI:iI f last l (false,.zero)=(s1,s2):=hI.symm;simp only [DC,hI] at h4;have hG:=hG s2.who s2.cur;have hin:=cg.1 (CJ s2.who s2.cur l);cases s1
  ·simp only [fZ,if_false] at h4;rw [<- h4];simp only [go_sem,seval,aJ,hdx]
  have hmem:s2∈l/\(f||jP last s2)=true:=by
   have:=Cq (f:=f) (last:=last) (l:=l) (s:=(false,.zero)) (by rw [hI]);rw [hI] at this;rcases this with h | h
   ·cases h
   ·exact h
  have hcn:=Ju hmem.1 hmem.2;simp only [if_true] at h4;simp only [go_sem,seval,aJ,hdx];(with_reducible and_intros)<;>first|exact .dq|omega|skip
  refine aa.pure hG ?_
  by_cases q1:lM s2.who s2.cur l=0
  case neg =>
   have d:(lM s2.who s2.cur l==0)=false:=by simpa using q1
   rw [if_neg q1] at h4;rw [<- h4];simp only [go_sem,seval,bne,d]
   all_goals simp
  rw [if_pos q1] at h4;have hwk:IntKind.wrap .i64 (((l.length-m:Nat):Int)+1)=((l.length+1-m:Nat):Int):=by rw [bn (by omega) (by omega)];omega
  have hfm:(m==l.length+1)=false:=by simp;omega
  simp only [Nz] at h4;cases q2:jF s2.who s2.cur l==0
  ·simp only [q2,fZ,if_false] at h4;simp only [go_sem,seval,bne,q1,q2,hwk,aJ];(with_reducible and_intros)<;>first|exact .dq|omega|skip
   refine ⟨(m,s2,out++[⟨s2.who,s2.cur,jF s2.who s2.cur l⟩]),⟨?_,by omega,by simp;omega,by simp only [hfm];exact h4⟩,?_,by simp⟩
   ·simp only [hfm];omega
   ·simp only [go_sem,seval]<;>simp
  ·simp only [q2,if_true,List.append_nil] at h4;simp only [go_sem,seval,bne,q1,q2,hwk];(with_reducible and_intros)<;>first|exact .dq|omega|skip
   refine ⟨(m,s2,out),⟨?_,by omega,by simp;omega,by simp only [hfm];exact h4⟩,?_,by simp⟩
   ·simp only [hfm];omega
   ·simp only [go_sem,seval]
theorem Dt (l:List aQ) (hl:l.length < 2 ^ 29):Abs.Spec Tryz.prog 194 [] [.sl 3 (l.map aQ.cells)] [] (.bI [.sl 3 ((jJ l).1.map aQ.cells),.int .i64 (jJ l).2]):=by
 refine Spec.frozen (Oy l hl) [0] rfl ?_;intro r;rcases r with _ | r<;>rfl
end Go.Proofs.YtnkobepdbkmedaaGreatDoor
