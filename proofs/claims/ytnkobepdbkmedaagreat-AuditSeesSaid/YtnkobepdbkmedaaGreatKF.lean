/- The reference's postings: accounts, legs, and what follows. No theorem of a claim. -/
import Derived.Test.YtnkobepdbkmedaaGreatKD
import Derived.Test.YtnkobepdbkmedaaGreatAbcAuto
import Derived.Test.YtnkobepdbkmedaaGreatKE
set_option linter.unusedSimpArgs false
set_option linter.unusedVariables false
set_option maxHeartbeats 4000000
set_option maxRecDepth 16000
namespace Go.Proofs.YtnkobepdbkmedaaGreat
open Go.Abs
structure aW where
 kind:Int
 who:Int
 cur:Int
 bW:Int
deriving DecidableEq
@[reducible] def aW.cells (x:aW):List D:=[.int .i64 x.kind,.int .i64 x.who,.int .i64 x.cur,.int .i64 x.bW]
def aW.bH (x:aW):aH:=⟨x.kind,x.who,x.cur⟩
def aW.cE (x:aW):Prop:=eW x.kind/\eW x.who/\eW x.cur/\eW x.bW
def acc (k w c:Nat):List aH:=if aH.right ⟨(k:Int)+1,w,c⟩ then [⟨(k:Int)+1,w,c⟩] else []
def xX (k w:Nat) (i:Nat):List aH:=(List.range i).flatMap (acc k w)
def yE (k:Nat) (i:Nat):List aH:=(List.range i).flatMap fun w=>xX k w 3
def Cf (i:Nat):List aH:=(List.range i).flatMap fun k=>yE k 17
def gE:List aH:=Cf 6
theorem II (k w i:Nat):(xX k w i).length<=i:=by
 have:=xN (f:=acc k w) (m:=1) (fun c=>by simp only [acc];split<;>simp) i;simpa [xX] using this
theorem Ks (k i:Nat):(yE k i).length<=3*i:=xN (fun w=>II k w 3) i
theorem HX (i:Nat):(Cf i).length<=51*i:=xN (fun k=>Ks k 17) i
theorem wE:gE.length<=306:=HX 6
theorem wg:Abs.Spec Tryz.prog 176 [] [.sl 1 [[.int .i64 1],[.int .i64 2],[.int .i64 3],[.int .i64 4],[.int .i64 5],[.int .i64 6]]] [.own 3 (gE.map aH.cells)] (.ref 0):=by
 obtain ⟨ks,hks⟩:=aL ([1,2,3,4,5,(6:Int)]);have hl:ks.length=6:=by rw [hks];rfl
 have he:([[.int .i64 1],[.int .i64 2],[.int .i64 3],[.int .i64 4],[.int .i64 5],[.int .i64 6]]:List (List D))=ints ks:=by rw [hks];rfl
 have hin:∀ i:Nat,i < 6->pY ks ((i:Int)+1)=true:=fun i hi=>by
  rw [hks];simp only [pY,List.any_cons,List.any_nil,Bool.or_eq_true,beq_iff_eq];omega
 rw [he];clear he hks;refine bg 51 1 [.tmp 2] mixed Tryz.func176 ?_;simp only [go_sem,seval];refine aC.walk (S:=Unit) 6 [0] [] (fun i _=>[(4,.int .i64 ((i:Int)+1)),(3,.ref 800)]) (fun i _=>[(800,.own 3 ((Cf i).map aH.cells))]) (fun _ _=>True) () trivial ?_ ?_ ?_
 ·simp only [go_sem,seval]<;>simp [Cf]
 ·intro k _ hk _ _ _;have hd:decide ((k:Int)+1<=6)=true:=decide_eq_true (by omega);have hwk:IntKind.wrap .i64 ((k:Int)+1+1)=((k+1:Nat):Int)+1:=by rw [bz (by omega) (by omega)];omega
  obtain ⟨K,hK⟩:=aL ((k:Int)+1);have hnext:Cf (k+1)=Cf k++yE k 17:=ud _ k;have hlen:=HX k;rw [<- hK] at hd hwk |-;simp only [go_sem,seval,hd,ay,hl];refine aC.walk (S:=Unit) 6 [0,3,4] [800] (fun j _=>[(6,.int .i64 j),(5,.bool (pY (ks.take j) K))]) (fun _ _=>[]) (fun _ _=>True) () trivial ?_ ?_ ?_
  ·simp only [go_sem,seval]<;>simp [pY]
  ·intro j _ hj hdj hwj _;have hj':j < ks.length:=by omega
   have hst:=w6 ks K hj';have hdj:decide ((j:Int) < 6)=true:=hdj;cases hb:pY (ks.take j) K
   ·rw [hb,Bool.false_or] at hst;simp only [go_sem,seval,ay,hl,hdj,ints_at ks hj',hwj];(with_reducible and_intros)<;>first|exact .dq|omega|skip
    refine ah.step () hj trivial ?_;simp only [go_sem,seval,hst]
   ·rw [hb,Bool.true_or] at hst;simp only [go_sem,seval,ay,hl,hdj,ints_at ks hj',hwj];(with_reducible and_intros)<;>first|exact .dq|omega|skip
    refine ah.step () hj trivial ?_;simp only [go_sem,seval,hst]
  intro _ hdj _;have hdj:decide ((6:Int) < 6)=false:=hdj;have hy:pY (ks.take 6) K=true:=by rw [<- hl,List.take_length,hK];exact hin k hk
  rw [hy];simp only [go_sem,seval,ay,hl,hdj];refine aC.walk (S:=Unit) 17 [0,4,5] [] (fun j _=>[(7,.int .i64 j),(3,.ref 800)]) (fun j _=>[(800,.own 3 ((Cf k++yE k j).map aH.cells))]) (fun _ _=>True) () trivial ?_ ?_ ?_
  ·simp only [go_sem,seval]<;>simp [yE]
  ·intro w _ hw hdw hww _;have hdw:decide ((w:Int)<=16)=true:=decide_eq_true (by omega);have hnw:yE k (w+1)=yE k w++xX k w 3:=ud _ w;have hlw:=Ks k w;simp only [go_sem,seval,hdw];refine aC.walk (S:=Unit) 3 [0,4,5,7] [] (fun j _=>[(8,.int .i64 j),(3,.ref 800)]) (fun j _=>[(800,.own 3 ((Cf k++yE k w++xX k w j).map aH.cells))]) (fun _ _=>True) () trivial ?_ ?_ ?_
   ·simp only [go_sem,seval]<;>simp [xX]
   ·intro c _ hc hdc hwc _;have hdc:decide ((c:Int) < 3)=true:=hdc;have hnc:xX k w (c+1)=xX k w c++acc k w c:=ud _ c;have hlc:=II k w c;have hR:=fI ⟨K,w,c⟩;simp only [aH.cells] at hR;simp only [acc,<- hK] at hnc;simp only [go_sem,seval,hdc];(with_reducible and_intros)<;>first|exact .dq|omega|skip
    refine aa.pure hR ?_;cases hb:aH.right ⟨K,w,c⟩
    ·rw [hb] at hnc;simp only [go_sem,seval,hwc];refine ah.step () hc trivial ?_;simp only [go_sem,seval,hnc]<;>simp
    ·rw [hb] at hnc;simp only [go_sem,seval,hwc,aG,List.length_append];(with_reducible and_intros)<;>first|exact .dq|omega|skip
     refine ah.step () hc trivial ?_;simp only [go_sem,seval,hnc]<;>simp [aH.cells]
   ·intro _ hdc _;have hdc:decide ((3:Int) < 3)=false:=hdc;simp only [go_sem,seval,hdc,hww];refine ah.step () hw trivial ?_;simp only [go_sem,seval,hnw]<;>simp
  ·intro _ _ _;simp only [go_sem,seval,hwk];refine ah.step () hk trivial ?_;simp only [go_sem,seval,hnext]<;>simp
 ·intro _ _ _;simp only [go_sem,seval,gE]
def M1 (x:aW):Bool:=x.bH.right&&bP x.bW
def zG (l:List aW):Bool:=l.all M1
theorem vV (l:List aW) (hl:l.length < 2 ^ 40):Abs.Spec Tryz.prog 213 [] [.sl 4 (l.map aW.cells)] [] (.bool (zG l)):=by
 refine bg 26 1 [.tmp 2] mixed Tryz.func213 ?_;simp only [go_sem,seval,aG];refine aC.walk (S:=Unit) l.length [0] [] (fun i _=>[(3,.int .i64 i)]) (fun _ _=>[]) (fun i _=>zG (l.drop i)=zG l) () rfl ?_ ?_ ?_
 ·simp only [go_sem,seval]<;>simp
 ·intro i _ hi hdi hwi hI;have hm:=aD (c:=aW.cells) l hi;obtain ⟨x,hx⟩:=aL (l[i]);have hR:=fI x.bH;have hN:=cZ x.bW;have hli:(i:Int) < (l.length:Int):=by omega
  rw [dy hi,<- hx] at hI;rw [<- hx] at hm;have hk:M1 x=(aH.right ⟨x.kind,x.who,x.cur⟩&&bP x.bW):=rfl;simp only [zG,List.all_cons,hk] at hI;simp only [aW.cells] at hm;simp only [aH.cells,aW.bH] at hR;simp only [go_sem,seval,aG,hdi,hm];(with_reducible and_intros)<;>first|exact .dq|omega|skip
  refine aa.pure hR ?_;cases b1:aH.right ⟨x.kind,x.who,x.cur⟩
  ·rw [b1] at hI;simp only [go_sem,seval,zG,<- hI,Bool.false_and]
  simp only [go_sem,seval,aG,hm];(with_reducible and_intros)<;>first|exact .dq|omega|skip
  refine aa.pure hN ?_;cases b2:bP x.bW
  ·rw [b1,b2] at hI;simp only [go_sem,seval,zG,<- hI,Bool.false_and,Bool.and_false]
  rw [b1,b2,Bool.and_self,Bool.true_and] at hI;simp only [go_sem,seval,hwi];refine ah.step () hi hI ?_;simp only [go_sem,seval]
 ·intro _ hdx hI;rw [List.drop_length] at hI;simp only [go_sem,seval,aG,hdx,<- hI];rfl
def bN (a b:aH) (n:Int):List aW:=[⟨a.kind,a.who,a.cur,-(if bP n then n else 0)⟩,⟨b.kind,b.who,b.cur,if bP n then n else 0⟩]
theorem Hz (a b:aH) (n:Int):Abs.Spec Tryz.prog 59 [] [.agg a.cells,.agg b.cells,.int .i64 n] [.own 4 ((bN a b n).map aW.cells)] (.ref 0):=by
 have hN:=cZ n;have hw:bP n=true->IntKind.wrap .i64 (0-n) = -n:=fun h=>by have:=cm.1 h;rw [bz (by omega) (by omega)];omega
 simp only [aH.cells];refine bg 18 3 [.tmp 6] mixed Tryz.func59 ?_;simp only [go_sem,seval];refine aa.pure hN ?_;cases b1:bP n
 ·simp only [go_sem,seval,bN,b1]<;>simp;rfl
 ·simp only [go_sem,seval,bN,b1,hw b1]<;>simp
theorem ij (a b:aH) (n:Int):Abs.Spec Tryz.prog 59 [] [.agg a.cells,.agg b.cells,.int .i64 n] [] (.sl 4 ((bN a b n).map aW.cells)):=by
 refine Spec.frozen (Hz a b n) [0] rfl ?_;intro r;rcases r with _ | r<;>rfl
def pick {A:Type} (p:A->Bool) (f:A->Int) (xs:List A):List Int:=xs.flatMap fun x=>if p x then [f x] else []
theorem Eu {A:Type} (p:A->Bool) (f:A->Int) {xs:List A} {i:Nat} (h:i < xs.length):pick p f (xs.take (i+1))=pick p f (xs.take i)++(if p xs[i] then [f xs[i]] else []):=gl _ h
theorem bY {A:Type} (p:A->Bool) (f:A->Int) (xs:List A):(pick p f xs).length<=xs.length:=by
 have:=fm (f:=fun x=>if p x then [f x] else []) (m:=1) (fun x=>by split<;>simp) xs;simpa [pick] using this
theorem kM {A:Type} {p:A->Bool} {f:A->Int} {xs:List A} {R:Int->Prop} (h:∀ x∈xs,R (f x)):∀ n∈pick p f xs,R n:=by
 intro n hn;obtain ⟨x,hx,hn⟩:=List.mem_flatMap.1 hn;split at hn
 ·obtain rfl:n=f x:=by simpa using hn
  exact h x hx
 ·cases hn
theorem fG {A:Type} (p:A->Bool) (f:A->Int) {xs:List A} {i:Nat} (h:i < xs.length):ints (pick p f (xs.take (i+1)))=ints (pick p f (xs.take i))++(if p xs[i] then [[.int .i64 (f xs[i])]] else []):=by
 rw [Eu p f h];unfold ints;rw [List.map_append];split<;>rfl
theorem Z8 (l:List Int):(bP (az l)&&addN l==0)=(az l==0):=by
 unfold addN;cases h:bP (az l)
 ·have:az l≠0:=fun e=>by rw [e] at h;cases h
  simp [this]
 ·simp
theorem AY {l:List aW} (h:zG l=true):∀ x∈l,x.bH.right=true/\bP x.bW=true:=fun x hx=>by
 have:=List.all_eq_true.1 h x hx;simpa only [M1,bZ] using this
def qb (c:Int) (l:List aW):List Int:=pick (fun x=>x.cur==c) aW.bW l
def yU (l:List aW):Bool:=(List.range 3).all fun c=>az (qb c l)==0
def sn (l:List aW):Int:=if l.length=0 then 2 else if 64 < l.length then 5 else if zG l then (if yU l then 0 else 12) else 3
theorem C4 (l:List aW) (hl:l.length < 2 ^ 30):Abs.Spec Tryz.prog 175 [] [.sl 4 (l.map aW.cells)] [] (.int .i64 (sn l)):=by
 have hM:=vV l (by omega);refine bg 54 1 [.tmp 2] mixed Tryz.func175 ?_;simp only [go_sem,seval,aG]
 by_cases h0:l.length=0
 ·have d:((l.length:Int)==0)=true:=by simp [h0]
  have e:sn l=2:=by simp [sn,h0]
  simp only [go_sem,seval,d,e]
 have d0:((l.length:Int)==0)=false:=by simpa using h0
 by_cases h1:64 < l.length
 ·have d:decide (64 < (l.length:Int))=true:=decide_eq_true (by omega);have e:sn l=5:=by simp only [sn];rw [if_neg h0,if_pos h1]
  simp only [go_sem,seval,d0,d,e,aG]
 have d1:decide (64 < (l.length:Int))=false:=decide_eq_false (by omega);simp only [go_sem,seval,d0,d1,aG];refine aa.pure hM ?_;cases b1:zG l
 ·have e:sn l=3:=by simp only [sn];rw [if_neg h0,if_neg h1,b1];rfl
  simp only [go_sem,seval,e]
 have e:sn l=if yU l then 0 else 12:=by simp only [sn];rw [if_neg h0,if_neg h1,b1];rfl
 have hmm:=AY b1;rw [e];clear e d0 d1 hM;simp only [go_sem,seval];refine aC.walk (S:=Unit) 3 [0] [] (fun i _=>[(3,.int .i64 i)]) (fun _ _=>[]) (fun i _=>∀ c < i,(az (qb (c:Nat) l)==0)=true) () (by simp) ?_ ?_ ?_
 ·simp only [go_sem,seval]<;>simp
 ·intro c _ hc hdc hwc hI;have hdc:decide ((c:Int) < 3)=true:=hdc;have hA:=ct (qb c l) (kM fun x hx=>nR (hmm x hx).2) (by have:=bY (fun x:aW=>x.cur==(c:Int)) aW.bW l;unfold qb;omega);have h0:=Z8 (qb c l);simp only [go_sem,seval,hdc,aG];refine aC.walk (S:=Unit) l.length [0,3] [] (fun i _=>[(5,.int .i64 i),(4,.ref 688)]) (fun i _=>[(688,.own 1 (ints (qb c (l.take i))))]) (fun _ _=>True) () trivial ?_ ?_ ?_
  ·simp only [go_sem,seval]<;>simp [qb,pick,ints]
  ·intro i _ hi hdi hwi _;have hm:=aD (c:=aW.cells) l hi;have hs:ints (qb c (l.take (i+1)))=_:=fG (fun x:aW=>x.cur==(c:Int)) aW.bW hi;have hlen:=bY (fun x:aW=>x.cur==(c:Int)) aW.bW (l.take i);have hlt:(l.take i).length=i:=by simp;omega
   have hli:(i:Int) < (l.length:Int):=by omega
   have hlen:(qb c (l.take i)).length<=i:=by unfold qb;omega
   obtain ⟨x,hx⟩:=aL (l[i]);rw [<- hx] at hs hm;simp only [aW.cells] at hm;simp only [go_sem,seval,aG,hdi,hm];(with_reducible and_intros)<;>first|exact .dq|omega|skip
   cases hb:x.cur==(c:Int)
   ·simp only [hb,fY,if_false,if_true,List.append_nil] at hs;simp only [go_sem,seval,hwi];refine ah.step () hi trivial ?_;simp only [go_sem,seval,hs]<;>simp [qb]
   ·simp only [hb,fY,if_false,if_true,List.append_nil] at hs;simp only [go_sem,seval,hwi,ay,aG,hm];(with_reducible and_intros)<;>first|exact .dq|omega|skip
    refine ah.step () hi trivial ?_;simp only [go_sem,seval,hs]<;>simp [qb]
  ·intro _ hdx _;simp only [go_sem,seval,hdx,aG,List.take_length];refine aa.gen [] [] true (by simp) ?_;simp only [go_sem,seval];refine aY.intro hA ?_;cases b1:bP (az (qb c l))
   ·have:yU l=false:=by
     rw [yU,List.all_eq_false];exact ⟨c,List.mem_range.2 hc,by rw [b1] at h0;rw [<- h0];simp⟩
    simp only [go_sem,seval,b1,this]
   cases b2:addN (qb c l)==0
   ·have:yU l=false:=by
     rw [yU,List.all_eq_false];exact ⟨c,List.mem_range.2 hc,by rw [b1,b2] at h0;rw [<- h0];simp⟩
    simp only [go_sem,seval,b1,bne,b2,this]
   rw [b1,b2] at h0;simp only [go_sem,seval,b1,bne,b2,hwc];refine ah.step () hc ?_ ?_
   ·intro k hk;rcases Nat.lt_or_ge k c with h | h
    ·exact hI k h
    ·obtain rfl:k=c:=by omega
     exact h0.symm
   ·simp only [go_sem,seval]
 ·intro _ hdc hI;have hdc:decide ((3:Int) < 3)=false:=hdc;have:yU l=true:=List.all_eq_true.2 fun c hc=>hI c (List.mem_range.1 hc)
  simp only [go_sem,seval,hdc,this]
def dL (a:aH) (l:List aW):List Int:=pick (fun x=>x.bH.same a) aW.bW l
def C0 (a:aH) (n:Int):List aW:=if n==0 then [] else [⟨a.kind,a.who,a.cur,n⟩]
def vS (l:List aW) (ys:List aH):List aW:=ys.flatMap fun a=>C0 a (az (dL a l))
def qK (l:List aW) (ys:List aH):Bool:=ys.all fun a=>bP (az (dL a l))
def mP (l:List aW):Int:=if zG l then (if qK l gE then 0 else 1) else 3
def iF (l:List aW):List aW:=if mP l=0 then vS l gE else []
theorem Qm (a:aH) (n:Int):(C0 a n).length<=1:=by unfold C0;split<;>simp
theorem EN (l:List aW) (ys:List aH):(vS l ys).length<=ys.length:=by
 have:=fm (f:=fun a=>C0 a (az (dL a l))) (m:=1) (fun a=>Qm _ _) ys;simpa [vS] using this
theorem Gt (l:List aW) (hl:l.length < 2 ^ 29):Abs.Spec Tryz.prog 193 [] [.sl 4 (l.map aW.cells)] [.own 4 ((iF l).map aW.cells)] (.bI [.ref 0,.int .i64 (mP l)]):=by
 have hM:=vV l (by omega);have hAll:=wg;refine bg 65 1 [.tmp 2,.tmp 3] mixed Tryz.func193 ?_;simp only [go_sem,seval];refine aa.pure hM ?_;cases b1:zG l
 ·have e:mP l=3:=by simp [mP,b1]
  have e2:iF l=[]:=by simp [iF,e]
  simp only [go_sem,seval,e,e2]<;>simp
 have e:mP l=if qK l gE then 0 else 1:=by simp [mP,b1]
 have e2:iF l=if qK l gE then vS l gE else []:=by simp only [iF,e];cases qK l gE<;>simp
 have hmm:=AY b1;have hal:=wE;rw [e,e2];clear e e2 hM;obtain ⟨ys,has⟩:=aL (gE);rw [<- has] at hAll hal |-;clear has;simp only [go_sem,seval];refine aa.gen [240] [] false (by simp) ?_;simp only [go_sem,seval];refine aY.intro hAll ?_;simp only [go_sem,seval,aG];refine aC.walk (S:=Unit) ys.length [0,5] [256] (fun i _=>[(6,.int .i64 i),(4,.ref 1024)]) (fun i _=>[(1024,.own 4 ((vS l (ys.take i)).map aW.cells))]) (fun i _=>qK l (ys.drop i)=qK l ys) () rfl ?_ ?_ ?_
 ·simp only [go_sem,seval]<;>simp [vS]
 ·intro k _ hk hdk hwk hI;have hma:=aD (c:=aH.cells) ys hk;have hlk:(k:Int) < (ys.length:Int):=by omega
  have hnx:vS l (ys.take (k+1))=vS l (ys.take k)++_:=gl _ hk;have hjl:=EN l (ys.take k);have hjt:(ys.take k).length=k:=by simp;omega
  obtain ⟨a,ha⟩:=aL (ys[k]);rw [dy hk,<- ha] at hI;simp only [qK,List.all_cons] at hI;rw [<- ha] at hma hnx;have hA:=ct (dL a l) (kM fun x hx=>nR (hmm x hx).2) (by have:=bY (fun x:aW=>x.bH.same a) aW.bW l;unfold dL;omega);simp only [aH.cells] at hma;simp only [go_sem,seval,hdk,aG];refine aC.walk (S:=Unit) l.length [0,4,5,6] [256,1024] (fun i _=>[(8,.int .i64 i),(7,.ref 736)]) (fun i _=>[(736,.own 1 (ints (dL a (l.take i))))]) (fun _ _=>True) () trivial ?_ ?_ ?_
  ·simp only [go_sem,seval]<;>simp [dL,pick,ints]
  ·intro i _ hi hdi hwi _;have hm:=aD (c:=aW.cells) l hi;have hs:ints (dL a (l.take (i+1)))=ints (dL a (l.take i))++_:=fG (fun x:aW=>x.bH.same a) aW.bW hi;have hlen:=bY (fun x:aW=>x.bH.same a) aW.bW (l.take i);have hlt:(l.take i).length=i:=by simp;omega
   have hli:(i:Int) < (l.length:Int):=by omega
   have hlen:(dL a (l.take i)).length<=i:=by unfold dL;omega
   obtain ⟨x,hx⟩:=aL (l[i]);have hS:Abs.Spec Tryz.prog 152 [] [.agg [.int .i64 x.kind,.int .i64 x.who,.int .i64 x.cur],.agg [.int .i64 a.kind,.int .i64 a.who,.int .i64 a.cur]] [] (.bool (x.bH.same a)):=pG x.bH a;rw [<- hx] at hs hm;simp only [aW.cells] at hm;simp only [go_sem,seval,aG,hdi,hm,hma];(with_reducible and_intros)<;>first|exact .dq|omega|skip
   refine aa.pure hS ?_;cases hb:x.bH.same a
   ·simp only [hb,fY,if_false,if_true,List.append_nil] at hs;simp only [go_sem,seval,hwi];refine ah.step () hi trivial ?_;simp only [go_sem,seval,hs]
   ·simp only [hb,fY,if_false,if_true,List.append_nil] at hs;simp only [go_sem,seval,hwi,ay,aG,hm];(with_reducible and_intros)<;>first|exact .dq|omega|skip
    refine ah.step () hi trivial ?_;simp only [go_sem,seval,hs]
  ·intro _ hdx _;simp only [go_sem,seval,hdx,aG,List.take_length];refine aa.gen [] [] true (by simp) ?_;simp only [go_sem,seval];refine aY.intro hA ?_;cases b1:bP (az (dL a l))
   ·rw [b1,Bool.false_and] at hI;have:qK l ys=false:=hI.symm;simp only [go_sem,seval,b1,this]<;>simp
   rw [b1,Bool.true_and] at hI;have hn:addN (dL a l)=az (dL a l):=by simp [addN,b1]
   rw [hn];cases b2:az (dL a l)==0
   ·simp only [C0,b2] at hnx;simp only [go_sem,seval,b1,bne,b2,hwk,hma,aG];(with_reducible and_intros)<;>first|exact .dq|omega|skip
    refine ah.step () hk hI ?_;simp only [go_sem,seval,hnx]<;>simp
   ·simp only [C0,b2] at hnx;simp only [go_sem,seval,b1,bne,b2,hwk];refine ah.step () hk hI ?_;simp only [go_sem,seval,hnx]<;>simp
 ·intro _ hdx hI;rw [List.drop_length] at hI;have:qK l ys=true:=hI.symm;simp only [go_sem,seval,hdx,aG,this,List.take_length]<;>simp
theorem mg (l:List aW) (hl:l.length < 2 ^ 29):Abs.Spec Tryz.prog 193 [] [.sl 4 (l.map aW.cells)] [] (.bI [.sl 4 ((iF l).map aW.cells),.int .i64 (mP l)]):=by
 refine Spec.frozen (Gt l hl) [0] rfl ?_;intro r;rcases r with _ | r<;>rfl
def mF (l:bq) (g:List aW) (a:aH):Int:=az (gw a l.bs :: dL a g)
def qg (a:aH) (n:Int):List bp:=if n==0 then [] else [⟨a.kind,a.who,a.cur,n⟩]
def DI (l:bq) (g:List aW) (ys:List aH):List bp:=ys.flatMap fun a=>qg a (mF l g a)
def wH (l:bq) (g:List aW) (ys:List aH):Bool:=ys.all fun a=>bP (mF l g a)
def tv (l:bq) (g:List aW) (ys:List aH):Bool:=ys.any fun a=>decide (mF l g a < a.floor)
def eI (l:bq) (id:Int) (g:List aW):Int:=
 if l.okB then (if within id 1 1099511627776 then (if id<=l.last then 18 else if sn g=0 then (if wH l g gE then (if tv l g gE then 13 else 0) else 1) else sn g) else 3) else 14
def gF (l:bq) (id:Int) (g:List aW):bq:=if eI l id g=0 then ⟨id,DI l g gE⟩ else ⟨0,[]⟩
theorem JV (a:aH) (n:Int):(qg a n).length<=1:=by unfold qg;split<;>simp
theorem Ib (l:bq) (g:List aW) (ys:List aH):(DI l g ys).length<=ys.length:=by
 have:=fm (f:=fun a=>qg a (mF l g a)) (m:=1) (fun a=>JV _ _) ys;simpa [DI] using this
theorem Jf {g:List aW} (h:sn g=0):zG g=true/\yU g=true/\g.length<=64:=by
 unfold sn at h;split at h
 ·cases h
 split at h
 ·cases h
 split at h
 ·split at h
  ·rename_i h1 h2 h3 h4;exact ⟨h3,h4,by omega⟩
  ·cases h
 ·cases h
theorem Ge (l:bq) (id:Int) (g:List aW) (hl:l.bs.length < 2 ^ 30) (hr:∀ b∈l.bs,b.cE) (hg:g.length < 2 ^ 29):Abs.Spec Tryz.prog 126 [] [.agg l.cells,.int .i64 id,.sl 4 (g.map aW.cells)] [.own 4 ((gF l id g).bs.map bp.cells)] (.bI [.agg [.int .i64 (gF l id g).last,.ref 0],.int .i64 (eI l id g)]):=by
 have hL:=gX l hl hr;have hC:=C4 g (by omega);have hAll:=wg;have hO:=fun a=>j0 l a hl
 have hor:=fun a=>Mp (a:=a) hr
 simp only [bq.cells,aH.cells] at hL hO |-;refine bg 116 3 [.cell 6 36,.tmp 7] mixed Tryz.func126 ?_;simp only [go_sem,seval];refine aa.pure hL ?_;cases b1:l.okB
 ·have e:eI l id g=14:=by simp [eI,b1]
  simp only [go_sem,seval,gF,e]<;>simp
 cases b2:within id 1 1099511627776
 ·have e:eI l id g=3:=by simp [eI,b1,b2]
  simp only [within,Bool.and_eq_false_iff,decide_eq_false_iff_not] at b2
  by_cases h:id < 1
  ·have d:decide (id < 1)=true:=decide_eq_true h;simp only [go_sem,seval,d,gF,e]<;>simp
  ·have d:decide (id < 1)=false:=decide_eq_false h;have d2:decide (1099511627776 < id)=true:=decide_eq_true (by omega);simp only [go_sem,seval,d,d2,gF,e]<;>simp
 have d1:decide (id < 1)=false:=by simp only [within,bZ,decide_eq_true_eq] at b2;exact decide_eq_false (by omega)
 have d2:decide (1099511627776 < id)=false:=by simp only [within,bZ,decide_eq_true_eq] at b2;exact decide_eq_false (by omega)
 by_cases h3:id<=l.last
 ·have d3:decide (id<=l.last)=true:=decide_eq_true h3;have e:eI l id g=18:=by simp [eI,b1,b2,h3]
  simp only [go_sem,seval,d1,d2,d3,gF,e]<;>simp
 have d3:decide (id<=l.last)=false:=decide_eq_false h3;simp only [go_sem,seval,d1,d2,d3];refine aa.pure hC ?_;cases b4:sn g==0
 ·have h4:sn g≠0:=by simpa using b4
  have e:eI l id g=sn g:=by simp [eI,b1,b2,h3,h4]
  have e2:gF l id g=⟨0,[]⟩:=by simp [gF,e,h4]
  simp only [go_sem,seval,bne,b4,e,e2]<;>simp
 have h4:sn g=0:=by simpa using b4
 have e:eI l id g=if wH l g gE then (if tv l g gE then 13 else 0) else 1:=by simp [eI,b1,b2,h3,h4]
 have hmm:=AY (Jf h4).1;have hal:=wE;simp only [gF];rw [e];clear e hL hC b2 d1 d2 d3;obtain ⟨ys,has⟩:=aL (gE);rw [<- has] at hAll hal |-;clear has;simp only [go_sem,seval,bne,b4];refine aa.gen [704] [] false (by simp) ?_;simp only [go_sem,seval];refine aY.intro hAll ?_;simp only [go_sem,seval,aG];refine aC.walk (S:=Unit) ys.length [2,3,6,8,10,12] [64,112,144,720] (fun i _=>[(13,.int .i64 i),(11,.bool (tv l g (ys.take i)))]) (fun i _=>[(176,.box [.int .i64 id,.ref 1792]),(1792,.own 4 ((DI l g (ys.take i)).map bp.cells))]) (fun i _=>wH l g (ys.drop i)=wH l g ys) () rfl ?_ ?_ ?_
 ·simp only [go_sem,seval]<;>simp [DI,tv]
 ·intro k _ hk hdk hwk hI;have hma:=aD (c:=aH.cells) ys hk;have hlk:(k:Int) < (ys.length:Int):=by omega
  have hnx:DI l g (ys.take (k+1))=DI l g (ys.take k)++_:=gl _ hk
  have hnf:tv l g (ys.take (k+1))=(tv l g (ys.take k)||decide (mF l g ys[k] < ys[k].floor)):=by
   simp only [tv];rw [List.take_succ_eq_append_getElem hk,List.any_append];simp
  have hjl:=Ib l g (ys.take k);have hjt:(ys.take k).length=k:=by simp;omega
  obtain ⟨a,ha⟩:=aL (ys[k]);rw [dy hk,<- ha] at hI;simp only [wH,List.all_cons] at hI;rw [<- ha] at hma hnx hnf
  have hA:=ct (gw a l.bs :: dL a g) (fun n hn=>by
   rcases List.mem_cons.1 hn with rfl | hn
   ·exact hor a
   ·exact kM (fun x hx=>nR (hmm x hx).2) n hn) (by have:=bY (fun x:aW=>x.bH.same a) aW.bW g;simp only [List.length_cons,dL];omega)
  have hF:=sI a;have hOa:=hO a;simp only [aH.cells] at hma hF hOa;clear hO;simp only [go_sem,seval,hdk,aG,hma];(with_reducible and_intros)<;>first|exact .dq|omega|skip
  refine aa.pure hOa ?_;simp only [go_sem,seval,aG];refine aC.walk (S:=Unit) g.length [2,3,6,8,10,11,12,13] [64,112,144,176,720,1792] (fun i _=>[(15,.int .i64 i),(14,.ref 1312)]) (fun i _=>[(1312,.own 1 (ints (gw a l.bs :: dL a (g.take i))))]) (fun _ _=>True) () trivial ?_ ?_ ?_
  ·simp only [go_sem,seval]<;>simp [dL,pick,ints]
  ·intro i _ hi hdi hwi _;have hm:=aD (c:=aW.cells) g hi;have hs:ints (dL a (g.take (i+1)))=ints (dL a (g.take i))++_:=fG (fun x:aW=>x.bH.same a) aW.bW hi;have hlen:=bY (fun x:aW=>x.bH.same a) aW.bW (g.take i);have hlt:(g.take i).length=i:=by simp;omega
   have hli:(i:Int) < (g.length:Int):=by omega
   have hlen:(gw a l.bs :: dL a (g.take i)).length<=i+1:=by simp only [List.length_cons,dL];omega
   obtain ⟨x,hx⟩:=aL (g[i]);rw [<- hx] at hs;have hs:ints (gw a l.bs :: dL a (g.take (i+1)))=ints (gw a l.bs :: dL a (g.take i))++(if x.bH.same a then [[.int .i64 x.bW]] else []):=congrArg (fun z:List (List D)=>([D.int .i64 (gw a l.bs)]:List D) :: z) hs;obtain ⟨L,hL⟩:=aL (gw a l.bs :: dL a (g.take i));have hS:Abs.Spec Tryz.prog 152 [] [.agg [.int .i64 x.kind,.int .i64 x.who,.int .i64 x.cur],.agg [.int .i64 a.kind,.int .i64 a.who,.int .i64 a.cur]] [] (.bool (x.bH.same a)):=pG x.bH a;rw [<- hL] at hs;rw [<- hx] at hm;rw [<- hL] at hlen |-;simp only [aW.cells] at hm;simp only [go_sem,seval,aG,hdi,hm,hma];(with_reducible and_intros)<;>first|exact .dq|omega|skip
   refine aa.pure hS ?_;cases hb:x.bH.same a
   ·simp only [hb,fY,if_false,if_true,List.append_nil] at hs;simp only [go_sem,seval,hwi];refine ah.step () hi trivial ?_;simp only [go_sem,seval,hs]<;>simp
   ·simp only [hb,fY,if_false,if_true,List.append_nil] at hs;simp only [go_sem,seval,hwi,ay,aG,hm];(with_reducible and_intros)<;>first|exact .dq|omega|skip
    refine ah.step () hi trivial ?_;simp only [go_sem,seval,hs]<;>simp
  ·intro _ hdx _;simp only [go_sem,seval,hdx,aG,List.take_length];refine aa.gen [] [] true (by simp) ?_;simp only [go_sem,seval];refine aY.intro hA ?_;have hS:az (gw a l.bs :: dL a g)=mF l g a:=rfl;have hn:bP (mF l g a)=true->addN (gw a l.bs :: dL a g)=mF l g a:=fun h=>by simp [addN,hS,h]
   rw [hS];cases b1:bP (mF l g a)
   ·rw [b1,Bool.false_and] at hI;have:wH l g ys=false:=hI.symm;simp only [go_sem,seval,b1,this]<;>simp
   rw [b1,Bool.true_and] at hI;rw [hn b1];cases b3:tv l g (ys.take k)
   case true =>
    rw [b3,Bool.true_or] at hnf;cases b2:mF l g a==0
    ·simp only [qg,b2] at hnx;simp only [go_sem,seval,b1,b3,bne,b2,hwk,hma,aG];(with_reducible and_intros)<;>first|exact .dq|omega|skip
     refine ah.step () hk hI ?_;simp only [go_sem,seval,hnx,hnf]<;>simp
    ·simp only [qg,b2] at hnx;simp only [go_sem,seval,b1,b3,bne,b2,hwk];refine ah.step () hk hI ?_;simp only [go_sem,seval,hnx,hnf]<;>simp
   rw [b3,Bool.false_or] at hnf;simp only [go_sem,seval,b1,b3,bne,hma,aG];(with_reducible and_intros)<;>first|exact .dq|omega|skip
   refine aa.pure hF ?_;cases b2:mF l g a==0
   ·simp only [qg,b2] at hnx;simp only [go_sem,seval,b2,hwk,hma,aG,bne];(with_reducible and_intros)<;>first|exact .dq|omega|skip
    refine ah.step () hk hI ?_;simp only [go_sem,seval,hnx,hnf]<;>simp
   ·simp only [qg,b2] at hnx;simp only [go_sem,seval,b2,bne,hwk];refine ah.step () hk hI ?_;simp only [go_sem,seval,hnx,hnf]<;>simp
 ·intro _ hdx hI;rw [List.drop_length] at hI;have:wH l g ys=true:=hI.symm;cases b5:tv l g ys
  ·simp only [go_sem,seval,hdx,aG,this,List.take_length,b5]<;>simp
  ·simp only [go_sem,seval,hdx,aG,this,List.take_length,b5]<;>simp
theorem pM (l:bq) (id:Int) (g:List aW) (hl:l.bs.length < 2 ^ 30) (hr:∀ b∈l.bs,b.cE) (hg:g.length < 2 ^ 29):Abs.Spec Tryz.prog 126 [] [.agg l.cells,.int .i64 id,.sl 4 (g.map aW.cells)] [] (.bI [.agg (gF l id g).cells,.int .i64 (eI l id g)]):=by
 refine Spec.frozen (Ge l id g hl hr hg) [0] rfl ?_;intro r;rcases r with _ | r<;>rfl
theorem mE (r:au) (h:r.jk):Abs.Spec Tryz.prog 10 [] [.agg r.cells] [] (.agg r.cells):=by
 refine Spec.frozen (mh r h) [0,1,2] rfl ?_;intro r;rcases r with _ | _ | _ | r<;>rfl
theorem BV (r:au) (h:r.jk):Abs.Spec Tryz.prog 10 [] [.agg r.cells] [.undef,.own 12 (r.ns.map aq.cells)] (.agg [.sl 3 (r.ms.map ak.cells),.ref 1,.sl 4 (r.xs.map av.cells)]):=by
 refine Spec.frozen (mh r h) [0,2] rfl ?_;intro r;rcases r with _ | _ | _ | r<;>rfl
theorem Lz (r:au) (h:r.jk):Abs.Spec Tryz.prog 10 [] [.agg r.cells] [.own 3 (r.ms.map ak.cells)] (.agg [.ref 0,.sl 12 (r.ns.map aq.cells),.sl 4 (r.xs.map av.cells)]):=by
 refine Spec.frozen (mh r h) [1,2] rfl ?_;intro r;rcases r with _ | _ | _ | r<;>rfl
def oq {B:Type} (f:Nat->List B) (i:Nat):List B:=(List.range i).flatMap f
theorem iI {B:Type} (f:Nat->List B) (i:Nat):oq f (i+1)=oq f i++f i:=ud f i
theorem kE {B:Type} {f:Nat->List B} {m:Nat} (h:∀ a,(f a).length<=m) (i:Nat):(oq f i).length<=m*i:=xN h i
theorem kg {B:Type} (f:Nat->List B):oq f 0=[]:=rfl
def au.none:au:=⟨[],[],[]⟩
def iG (r:au) (w n:Int):Int:=if r.okB then (if ak.ok ⟨w,1,n⟩ then (if eJ r w then 11 else 0) else 3) else 14
def Gi (r:au) (m:ak) (i:Nat):List ak:=(if eJ r ((i:Int)+1) then [fc r ((i:Int)+1)] else [])++(if (i:Int)+1==m.no then [m] else [])
def jJ (r:au) (w n:Int):au:=if iG r w n=0 then ⟨oq (Gi r ⟨w,1,n⟩) 16,r.ns,r.xs⟩ else .none
theorem PR (r:au) (m:ak) (i:Nat):(Gi r m i).length<=2:=by unfold Gi;split<;>split<;>simp
theorem Gf (r:au) (w n:Int) (h:r.jk):Abs.Spec Tryz.prog 50 [] [.agg r.cells,.int .i64 w,.int .i64 n] [.own 3 ((jJ r w n).ms.map ak.cells)] (.bI [.agg [.ref 0,.sl 12 ((jJ r w n).ns.map aq.cells),.sl 4 ((jJ r w n).xs.map av.cells)],.int .i64 (iG r w n)]):=by
 have c1:=dK r h.small;have c2:=sL ⟨w,1,n⟩;have c3:=fun n=>cj r n h.small
 have c4:=mE r h;simp only [au.cells] at c1 c3 c4 |-;simp only [ak.cells] at c2;refine bg 64 3 [.cell 6 29,.tmp 7] mixed Tryz.func50 ?_;simp only [go_sem,seval];(with_reducible and_intros)<;>first|exact .dq|omega|skip
 refine aa.pure c1 ?_;cases b1:r.okB
 ·have e:iG r w n=14:=by simp [iG,b1]
  simp only [go_sem,seval,jJ,e]<;>simp [au.none]
 simp only [go_sem,seval];(with_reducible and_intros)<;>first|exact .dq|omega|skip
 refine aa.pure c2 ?_;cases b2:ak.ok ⟨w,1,n⟩
 ·have e:iG r w n=3:=by simp [iG,b1,b2]
  simp only [go_sem,seval,jJ,e]<;>simp [au.none]
 have c3w:=c3 w;obtain ⟨g,hg⟩:=aL (fc r w);rw [<- hg] at c3w;simp only [ak.cells] at c3w;simp only [go_sem,seval];(with_reducible and_intros)<;>first|exact .dq|omega|skip
 refine aa.pure c3w ?_;cases b3:eJ r w
 case true =>
  have e:iG r w n=11:=by simp [iG,b1,b2,b3]
  simp only [go_sem,seval,jJ,e,b3]<;>simp [au.none]
 have e:iG r w n=0:=by simp [iG,b1,b2,b3]
 simp only [go_sem,seval,jJ,e,b3];(with_reducible and_intros)<;>first|exact .dq|omega|skip
 refine aa.pure c4 ?_;clear c1 c2 c4 c3w hg;simp only [go_sem,seval];(with_reducible and_intros)<;>first|exact .dq|omega|skip
 refine aC.walk (S:=Unit) 16 [1,3,6,8,11] [64,112,144] (fun i _=>[(12,.int .i64 ((i:Int)+1))]) (fun i _=>[(192,.box [.ref 992,.sl 12 (r.ns.map aq.cells),.sl 4 (r.xs.map av.cells)]),(992,.own 3 ((oq (Gi r ⟨w,1,n⟩) i).map ak.cells))]) (fun _ _=>True) () trivial ?_ ?_ ?_
 ·simp only [go_sem,seval,kg]<;>simp
 ·intro i _ hi _ _ _;have hd:decide ((i:Int)+1<=16)=true:=decide_eq_true (by omega);have hw:IntKind.wrap .i64 ((i:Int)+1+1)=((i+1:Nat):Int)+1:=by rw [bz (by omega) (by omega)];omega
  have hs:=iI (Gi r ⟨w,1,n⟩) i;have hl:=kE (PR r ⟨w,1,n⟩) i;obtain ⟨L,hL⟩:=aL (oq (Gi r ⟨w,1,n⟩) i);obtain ⟨k,hk⟩:=aL ((i:Int)+1);have c3k:=c3 k;obtain ⟨g,hg⟩:=aL (fc r k);rw [<- hL] at hs hl |-;simp only [Gi,<- hk] at hs;rw [<- hg] at c3k hs;rw [<- hk] at hd hw |-;simp only [ak.cells] at c3k;clear c3 hL;simp only [go_sem,seval,hd];(with_reducible and_intros)<;>first|exact .dq|omega|skip
  refine aa.pure c3k ?_
  cases q1:eJ r k<;>cases q2:k==w<;>(
   simp only [q1,q2] at hs;simp only [go_sem,seval,q1,q2,hw,aG,List.length_append];(with_reducible and_intros)<;>first|exact .dq|omega|skip
   try refine ah.step () hi trivial ?_
   try simp only [go_sem,seval,hs])
  all_goals simp
 ·intro _ _ _;simp only [go_sem,seval]<;>simp
theorem DF (r:au) (w n:Int) (h:r.jk):Abs.Spec Tryz.prog 50 [] [.agg r.cells,.int .i64 w,.int .i64 n] [] (.bI [.agg (jJ r w n).cells,.int .i64 (iG r w n)]):=by
 refine Spec.frozen (Gf r w n h) [0] rfl ?_;intro r;rcases r with _ | r<;>rfl
def aq.bare (i:aq):aq:={ i with set:=0,aR:=0 }
def mz (r:au) (i:aq):Int:=if r.okB then (if i.bare.ok then (if bf r i.no then 11 else 0) else 3) else 14
def D0 (r:au) (m:aq) (i:Nat):List aq:=(if bf r ((i:Int)+1) then [aT r ((i:Int)+1)] else [])++(if (i:Int)+1==m.no then [m] else [])
def nW (r:au) (i:aq):au:=if mz r i=0 then ⟨r.ms,oq (D0 r i.bare) 8,r.xs⟩ else .none
theorem Pp (r:au) (m:aq) (i:Nat):(D0 r m i).length<=2:=by unfold D0;split<;>split<;>simp
theorem HO (r:au) (x:aq) (h:r.jk):Abs.Spec Tryz.prog 51 [] [.agg r.cells,.agg x.cells] [.own 12 ((nW r x).ns.map aq.cells)] (.bI [.agg [.sl 3 ((nW r x).ms.map ak.cells),.ref 0,.sl 4 ((nW r x).xs.map av.cells)],.int .i64 (mz r x)]):=by
 have c1:=dK r h.small;have c2:=rN x.bare;have c3:=fun n=>dc r n h.small
 have c4:=mE r h;simp only [au.cells] at c1 c3 c4 |-;simp only [aq.cells,aq.bare] at c2;refine bg 62 2 [.cell 4 29,.tmp 5] mixed Tryz.func51 ?_;simp only [go_sem,seval,aq.cells];(with_reducible and_intros)<;>first|exact .dq|omega|skip
 refine aa.pure c1 ?_;cases b1:r.okB
 ·have e:mz r x=14:=by simp [mz,b1]
  simp only [go_sem,seval,nW,e]<;>simp [au.none]
 simp only [go_sem,seval];(with_reducible and_intros)<;>first|exact .dq|omega|skip
 refine aa.pure c2 ?_;cases b2:x.bare.ok
 ·have e:mz r x=3:=by simp [mz,b1,b2]
  simp only [aq.bare] at b2;simp only [go_sem,seval,b2,nW,e]<;>simp [au.none]
 have b2':=b2;simp only [aq.bare] at b2';have c3w:=c3 x.no;obtain ⟨g,hg⟩:=aL (aT r x.no);rw [<- hg] at c3w;simp only [aq.cells] at c3w;simp only [go_sem,seval,b2'];(with_reducible and_intros)<;>first|exact .dq|omega|skip
 refine aa.pure c3w ?_;cases b3:bf r x.no
 case true =>
  have e:mz r x=11:=by simp [mz,b1,b2,b3]
  simp only [go_sem,seval,nW,e,b3]<;>simp [au.none]
 have e:mz r x=0:=by simp [mz,b1,b2,b3]
 simp only [go_sem,seval,nW,e,b3];(with_reducible and_intros)<;>first|exact .dq|omega|skip
 refine aa.pure c4 ?_;clear c1 c2 c4 c3w hg;simp only [go_sem,seval];(with_reducible and_intros)<;>first|exact .dq|omega|skip
 refine aC.walk (S:=Unit) 8 [2,3,4,8] [48,64,80] (fun i _=>[(9,.int .i64 ((i:Int)+1))]) (fun i _=>[(144,.box [.sl 3 (r.ms.map ak.cells),.ref 960,.sl 4 (r.xs.map av.cells)]),(960,.own 12 ((oq (D0 r x.bare) i).map aq.cells))]) (fun _ _=>True) () trivial ?_ ?_ ?_
 ·simp only [go_sem,seval,kg]<;>simp
 ·intro i _ hi _ _ _;have hd:decide ((i:Int)+1<=8)=true:=decide_eq_true (by omega);have hw:IntKind.wrap .i64 ((i:Int)+1+1)=((i+1:Nat):Int)+1:=by rw [bz (by omega) (by omega)];omega
  have hs:=iI (D0 r x.bare) i;have hl:=kE (Pp r x.bare) i;obtain ⟨L,hL⟩:=aL (oq (D0 r x.bare) i);obtain ⟨k,hk⟩:=aL ((i:Int)+1);have c3k:=c3 k;obtain ⟨g,hg⟩:=aL (aT r k);rw [<- hL] at hs hl |-;simp only [D0,<- hk,aq.bare] at hs;rw [<- hg] at c3k hs;rw [<- hk] at hd hw |-;simp only [aq.cells] at c3k;clear c3 hL;simp only [go_sem,seval,hd];(with_reducible and_intros)<;>first|exact .dq|omega|skip
  refine aa.pure c3k ?_
  cases q1:bf r k<;>cases q2:k==x.no<;>(
   simp only [q1,q2] at hs;simp only [go_sem,seval,q1,q2,hw,aG,List.length_append];(with_reducible and_intros)<;>first|exact .dq|omega|skip
   try refine ah.step () hi trivial ?_
   try simp only [go_sem,seval,hs,aq.bare,aq.cells])
  all_goals simp [aq.cells]
 ·intro _ _ _;simp only [go_sem,seval]<;>simp
theorem GW (r:au) (x:aq) (h:r.jk):Abs.Spec Tryz.prog 51 [] [.agg r.cells,.agg x.cells] [] (.bI [.agg (nW r x).cells,.int .i64 (mz r x)]):=by
 refine Spec.frozen (HO r x h) [0] rfl ?_;intro r;rcases r with _ | r<;>rfl
def lM (r:au) (n:Int):av:=eP av.a n ⟨0,0,0,0⟩ r.xs
def mD (r:au) (a:av):Int:=if r.okB then (if a.ok&&!(jm r a.a&&!((lM r a.a).b==a.b)) then 0 else 3) else 14
def G6 (r:au) (a:av) (i:Nat):List av:=if (i:Int)+1==a.a then [a] else if jm r ((i:Int)+1) then [lM r ((i:Int)+1)] else []
def nT (r:au) (a:av):au:=if mD r a=0 then ⟨r.ms,r.ns,oq (G6 r a) 6⟩ else .none
theorem PF (r:au) (m:av) (i:Nat):(G6 r m i).length<=1:=by
 unfold G6;split
 ·simp
 ·split<;>simp
theorem J' (r:au) (a:av) (h:r.jk):Abs.Spec Tryz.prog 52 [] [.agg r.cells,.agg a.cells] [.own 4 ((nT r a).xs.map av.cells)] (.bI [.agg [.sl 3 ((nT r a).ms.map ak.cells),.sl 12 ((nT r a).ns.map aq.cells),.ref 0],.int .i64 (mD r a)]):=by
 have c1:=dK r h.small;have c2:=pI a;have c3:∀ n,Abs.Spec Tryz.prog 118 [] [.agg r.cells,.int .i64 n] [] (.bI [.agg (lM r n).cells,.bool (jm r n)]):=fun n=>ku r n h.small
 have c4:=mE r h;simp only [au.cells] at c1 c3 c4 |-;simp only [av.cells] at c2;have c3w:=c3 a.a;obtain ⟨g,hg⟩:=aL (lM r a.a);rw [<- hg] at c3w;simp only [av.cells] at c3w;refine bg 68 2 [.cell 4 29,.tmp 5] mixed Tryz.func52 ?_;simp only [go_sem,seval,av.cells];(with_reducible and_intros)<;>first|exact .dq|omega|skip
 refine aa.pure c1 ?_;cases b1:r.okB
 ·have e:mD r a=14:=by simp [mD,b1]
  simp only [go_sem,seval,nT,e]<;>simp [au.none]
 simp only [go_sem,seval];(with_reducible and_intros)<;>first|exact .dq|omega|skip
 refine aa.pure c3w ?_;simp only [go_sem,seval];(with_reducible and_intros)<;>first|exact .dq|omega|skip
 refine aa.pure c2 ?_;cases b2:a.ok
 ·have e:mD r a=3:=by simp [mD,b1,b2]
  simp only [go_sem,seval,nT,e]<;>simp [au.none]
 cases b3:jm r a.a&&!(g.b==a.b)
 case true =>
  have e:mD r a=3:=by simp only [mD,b1,b2,<- hg,b3];rfl
  simp only [bZ,Bool.not_eq_true'] at b3;simp only [go_sem,seval,nT,e,b3.1,b3.2,bne,Bool.not_false]<;>simp [au.none]
 have e:mD r a=0:=by simp only [mD,b1,b2,<- hg,b3];rfl
 have hfin:∀ {Q:Prop},Q->Q:=fun q=>q
 cases q1:jm r a.a<;>cases q2:g.b==a.b<;>(try (rw [q1,q2] at b3;exact absurd b3 (by decide)))
 all_goals simp only [go_sem,seval,nT,e,q1,q2,bne]
 all_goals (with_reducible and_intros)<;>first|exact .dq|omega|skip
 all_goals refine aa.pure c4 ?_
 all_goals clear c1 c2 c4 c3w hg q1 q2 b3
 all_goals simp only [go_sem,seval]
 all_goals (with_reducible and_intros)<;>first|exact .dq|omega|skip
 all_goals refine aC.walk (S:=Unit) 6 [2,3,4,8] [48,64,80] (fun i _=>[(9,.int .i64 ((i:Int)+1))]) (fun i _=>[(144,.box [.sl 3 (r.ms.map ak.cells),.sl 12 (r.ns.map aq.cells),.ref 1056]),(1056,.own 4 ((oq (G6 r a) i).map av.cells))]) (fun _ _=>True) () trivial ?_ ?_ ?_
 all_goals try (simp only [go_sem,seval,kg]<;>simp;done)
 all_goals
  intro i _ hi _ _ _;have hd:decide ((i:Int)+1<=6)=true:=decide_eq_true (by omega);have hw:IntKind.wrap .i64 ((i:Int)+1+1)=((i+1:Nat):Int)+1:=by rw [bz (by omega) (by omega)];omega
  have hs:=iI (G6 r a) i;have hl:=kE (PF r a) i;obtain ⟨L,hL⟩:=aL (oq (G6 r a) i);obtain ⟨k,hk⟩:=aL ((i:Int)+1);have c3k:=c3 k;obtain ⟨g,hg⟩:=aL (lM r k);rw [<- hL] at hs hl |-;simp only [G6,<- hk] at hs;rw [<- hg] at c3k hs;rw [<- hk] at hd hw |-;simp only [av.cells] at c3k;clear c3 hL;simp only [go_sem,seval,hd];(with_reducible and_intros)<;>first|exact .dq|omega|skip
  refine aa.pure c3k ?_
  cases q2:k==a.a<;>cases q1:jm r k<;>(
   simp only [q1,q2] at hs;simp only [go_sem,seval,q1,q2,hw,aG,List.length_append];(with_reducible and_intros)<;>first|exact .dq|omega|skip
   try refine ah.step () hi trivial ?_
   try simp only [go_sem,seval,hs])
  all_goals simp
theorem GO (r:au) (a:av) (h:r.jk):Abs.Spec Tryz.prog 52 [] [.agg r.cells,.agg a.cells] [] (.bI [.agg (nT r a).cells,.int .i64 (mD r a)]):=by
 refine Spec.frozen (J' r a h) [0] rfl ?_;intro r;rcases r with _ | r<;>rfl
def uz {A:Type} (no:A->Int) (n:Int) (f:A->A):List A->List A
 | []=>[]
 | x :: r=>if no x=n then f x :: r else x :: uz no n f r
theorem Cq {A:Type} {no:A->Int} {n:Int} {f:A->A}:∀ {xs:List A} {i:Nat} (h:i < xs.length),(∀ j (hj:j < xs.length),j < i->no xs[j]≠n)->no xs[i]=n->uz no n f xs=xs.set i (f xs[i])
 | [],i,h,_,_=>by simp at h
 | x :: r,0,h,_,he=>by
  have he:no x=n:=he;simp [uz,he]
 | x :: r,i+1,h,hn,he=>by
  have h0:no x≠n:=hn 0 (by simp) (by omega);have h1:=Cq (f:=f) (xs:=r) (i:=i) (by simpa using h) (fun j hj hji=>hn (j+1) (by simpa using hj) (by omega)) he;simp only [uz,if_neg h0,h1,List.getElem_cons_succ,List.set_cons_succ]
theorem Er {A:Type} {no:A->Int} {n:Int} {xs:List A} {i:Nat} (hI:∀ j (hj:j < xs.length),j < i->no xs[j]≠n) (h:i < xs.length) (hb:(no xs[i]==n)=false):∀ j (hj:j < xs.length),j < i+1->no xs[j]≠n:=by
 intro j hj hji;rcases Nat.lt_or_ge j i with h | h
 ·exact hI j hj h
 ·obtain rfl:j=i:=by omega
  simpa using hb
def uA (r:au) (n p:Int):Int:=if r.okB then (if bf r n then (if within p 1 1073741824 then 0 else 3) else 10) else 14
def aq.told (p:Int) (x:aq):aq:={ x with set:=p }
def uZ (r:au) (n p:Int):au:=if uA r n p=0 then ⟨r.ms,uz aq.no n (aq.told p) r.ns,r.xs⟩ else .none
theorem Ke (r:au) (n p:Int) (h:r.jk):Abs.Spec Tryz.prog 130 [] [.agg r.cells,.int .i64 n,.int .i64 p] [.own 12 ((uZ r n p).ns.map aq.cells)] (.bI [.agg [.sl 3 ((uZ r n p).ms.map ak.cells),.ref 0,.sl 4 ((uZ r n p).xs.map av.cells)],.int .i64 (uA r n p)]):=by
 have c1:=dK r h.small;have c4:=BV r h;have c5:=bn p 1 1073741824;have hl:=h.2.1;simp only [au.cells] at c1 c4 |-;refine bg 43 3 [.cell 6 29,.tmp 7] mixed Tryz.func130 ?_;simp only [go_sem,seval];(with_reducible and_intros)<;>first|exact .dq|omega|skip
 refine aa.pure c1 ?_;cases b1:r.okB
 ·have e:uA r n p=14:=by simp [uA,b1]
  simp only [go_sem,seval,uZ,e]<;>simp [au.none]
 have e:uA r n p=if bf r n then (if within p 1 1073741824 then 0 else 3) else 10:=by simp [uA,b1]
 simp only [uZ];rw [e];clear e c1;simp only [go_sem,seval];(with_reducible and_intros)<;>first|exact .dq|omega|skip
 refine aa.gen [] [] false (by simp) ?_;simp only [go_sem,seval];refine aY.intro c4 ?_;simp only [go_sem,seval];refine aC.walk (S:=Unit) r.ns.length [1,2,6,8] [112,144,257] (fun i _=>[(9,.int .i64 i)]) (fun _ _=>[]) (fun i _=>∀ j (hj:j < r.ns.length),j < i->r.ns[j].no≠n) () (by intros;omega) ?_ ?_ ?_
 ·simp only [go_sem,seval]<;>simp
 ·intro i _ hi hdi hwi hI;have hm:=aD (c:=aq.cells) r.ns hi;have hli:(i:Int) < (r.ns.length:Int):=by omega
  obtain ⟨x,hx⟩:=aL (r.ns[i]);have hnext:=Er hI hi;rw [<- hx] at hm hnext;simp only [aq.cells] at hm;simp only [go_sem,seval,aG,hdi,hm];(with_reducible and_intros)<;>first|exact .dq|omega|skip
  cases b2:x.no==n
  ·simp only [go_sem,seval,hwi];refine ah.step () hi (hnext b2) ?_;simp only [go_sem,seval]
  have hxn:r.ns[i].no=n:=by rw [<- hx];simpa using b2
  obtain ⟨g1,g2⟩:=gW (z:=aq.zero) hi hI hxn;have hu:=Cq (f:=aq.told p) hi hI hxn;have e1:bf r n=true:=by simp [bf,g2]
  rw [e1];simp only [go_sem,seval];refine aa.pure c5 ?_;cases b3:within p 1 1073741824
  ·simp only [go_sem,seval]<;>simp [au.none]
  rw [hu,<- hx];simp only [go_sem,seval,aG,hm];(with_reducible and_intros)<;>first|exact .dq|omega|skip
  all_goals simp [aq.told,List.map_set]
 ·intro _ hdx hI;obtain ⟨g1,g2⟩:=fR (z:=aq.zero) (fun j hj=>hI j hj hj);have e1:bf r n=false:=by simp [bf,g2]
  rw [e1];simp only [go_sem,seval,aG,hdx]<;>simp [au.none]
theorem F9 (r:au) (n p:Int) (h:r.jk):Abs.Spec Tryz.prog 130 [] [.agg r.cells,.int .i64 n,.int .i64 p] [] (.bI [.agg (uZ r n p).cells,.int .i64 (uA r n p)]):=by
 refine Spec.frozen (Ke r n p h) [0] rfl ?_;intro r;rcases r with _ | r<;>rfl
def Ak (r:au) (n p:Int):Int:=if r.okB then (if eJ r n then (if within p 1 3 then 0 else 3) else 10) else 14
def ak.put (p:Int) (x:ak):ak:={ x with state:=p }
def lR (r:au) (n p:Int):au:=if Ak r n p=0 then ⟨uz ak.no n (ak.put p) r.ms,r.ns,r.xs⟩ else .none
theorem La (r:au) (n p:Int) (h:r.jk):Abs.Spec Tryz.prog 144 [] [.agg r.cells,.int .i64 n,.int .i64 p] [.own 3 ((lR r n p).ms.map ak.cells)] (.bI [.agg [.ref 0,.sl 12 ((lR r n p).ns.map aq.cells),.sl 4 ((lR r n p).xs.map av.cells)],.int .i64 (Ak r n p)]):=by
 have c1:=dK r h.small;have c4:=Lz r h;have c5:=bn p 1 3;have hl:=h.1;simp only [au.cells] at c1 c4 |-;refine bg 43 3 [.cell 6 29,.tmp 7] mixed Tryz.func144 ?_;simp only [go_sem,seval];(with_reducible and_intros)<;>first|exact .dq|omega|skip
 refine aa.pure c1 ?_;cases b1:r.okB
 ·have e:Ak r n p=14:=by simp [Ak,b1]
  simp only [go_sem,seval,lR,e]<;>simp [au.none]
 have e:Ak r n p=if eJ r n then (if within p 1 3 then 0 else 3) else 10:=by simp [Ak,b1]
 simp only [lR];rw [e];clear e c1;simp only [go_sem,seval];(with_reducible and_intros)<;>first|exact .dq|omega|skip
 refine aa.gen [] [] false (by simp) ?_;simp only [go_sem,seval];refine aY.intro c4 ?_;simp only [go_sem,seval];refine aC.walk (S:=Unit) r.ms.length [1,2,6,8] [112,144,256] (fun i _=>[(9,.int .i64 i)]) (fun _ _=>[]) (fun i _=>∀ j (hj:j < r.ms.length),j < i->r.ms[j].no≠n) () (by intros;omega) ?_ ?_ ?_
 ·simp only [go_sem,seval]<;>simp
 ·intro i _ hi hdi hwi hI;have hm:=aD (c:=ak.cells) r.ms hi;have hli:(i:Int) < (r.ms.length:Int):=by omega
  obtain ⟨x,hx⟩:=aL (r.ms[i]);have hnext:=Er hI hi;rw [<- hx] at hm hnext;simp only [ak.cells] at hm;simp only [go_sem,seval,aG,hdi,hm];(with_reducible and_intros)<;>first|exact .dq|omega|skip
  cases b2:x.no==n
  ·simp only [go_sem,seval,hwi];refine ah.step () hi (hnext b2) ?_;simp only [go_sem,seval]
  have hxn:r.ms[i].no=n:=by rw [<- hx];simpa using b2
  obtain ⟨g1,g2⟩:=gW (z:=ak.zero) hi hI hxn;have hu:=Cq (f:=ak.put p) hi hI hxn;have e1:eJ r n=true:=by simp [eJ,g2]
  rw [e1];simp only [go_sem,seval];refine aa.pure c5 ?_;cases b3:within p 1 3
  ·simp only [go_sem,seval]<;>simp [au.none]
  rw [hu,<- hx];simp only [go_sem,seval,aG,hm];(with_reducible and_intros)<;>first|exact .dq|omega|skip
  all_goals simp [ak.put,List.map_set]
 ·intro _ hdx hI;obtain ⟨g1,g2⟩:=fR (z:=ak.zero) (fun j hj=>hI j hj hj);have e1:eJ r n=false:=by simp [eJ,g2]
  rw [e1];simp only [go_sem,seval,aG,hdx]<;>simp [au.none]
theorem y9 (r:au) (n p:Int) (h:r.jk):Abs.Spec Tryz.prog 144 [] [.agg r.cells,.int .i64 n,.int .i64 p] [] (.bI [.agg (lR r n p).cells,.int .i64 (Ak r n p)]):=by
 refine Spec.frozen (La r n p h) [0] rfl ?_;intro r;rcases r with _ | r<;>rfl
def ot {A:Type} (f:A->A) (xs:List A) (i:Nat):List A:=(xs.take i).map f++xs.drop i
theorem E9 {A:Type} (f:A->A) (xs:List A):ot f xs 0=xs:=by simp [ot]
theorem Cu {A:Type} (f:A->A) (xs:List A):ot f xs xs.length=xs.map f:=by simp [ot]
theorem tF {A:Type} (f:A->A) (xs:List A) (i:Nat):(ot f xs i).length=xs.length:=by simp [ot];omega
theorem Hr {A:Type} (f:A->A) {xs:List A} {i:Nat} (h:i < xs.length):(ot f xs i)[i]'(by rw [tF];exact h)=xs[i]:=by
 have hl:((xs.take i).map f).length=i:=by simp;omega
 simp only [ot];rw [List.getElem_append_right (by omega)];simp [Nat.min_eq_left (Nat.le_of_lt h)]
theorem Dn {A:Type} (f:A->A) {xs:List A} {i:Nat} (h:i < xs.length):(ot f xs i).set i (f xs[i])=ot f xs (i+1):=by
 have hl:((xs.take i).map f).length=i:=by simp;omega
 simp only [ot];rw [List.set_append_right _ _ (by omega),hl,Nat.sub_self,List.drop_eq_getElem_cons h,List.set_cons_zero,List.take_succ_eq_append_getElem h,List.map_append,List.append_assoc];rfl
theorem OK {A:Type} (f:A->A) {xs:List A} {i:Nat} (h:i < xs.length) (hf:f xs[i]=xs[i]):ot f xs (i+1)=ot f xs i:=by
 rw [<- Dn f h,hf]
 conv=>lhs;rw [<- Hr f h]
 exact List.set_getElem_self _
def aq.pS (x:aq):aq:=if x.set==0 then x else { x with aR:=x.set,set:=0 }
def Ix (r:au):au:=⟨r.ms,r.ns.map aq.pS,r.xs⟩
theorem JF (r:au) (h:r.jk):Abs.Spec Tryz.prog 138 [] [.agg r.cells] [.own 12 (r.ns.map aq.pS |>.map aq.cells)] (.agg [.sl 3 (r.ms.map ak.cells),.ref 0,.sl 4 (r.xs.map av.cells)]):=by
 have c4:=BV r h;have hl:=h.2.1;simp only [au.cells] at c4 |-;refine bg 38 1 [.cell 2 29] mixed Tryz.func138 ?_;simp only [go_sem,seval];(with_reducible and_intros)<;>first|exact .dq|omega|skip
 refine aa.gen [] [] false (by simp) ?_;simp only [go_sem,seval];refine aY.intro c4 ?_;simp only [go_sem,seval];(with_reducible and_intros)<;>first|exact .dq|omega|skip
 refine aC.walk (S:=Unit) r.ns.length [2,3] [48] (fun i _=>[(4,.int .i64 i)]) (fun i _=>[(64,.box [.sl 3 (r.ms.map ak.cells),.ref 368,.sl 4 (r.xs.map av.cells)]),(368,.own 12 ((ot aq.pS r.ns i).map aq.cells))]) (fun _ _=>True) () trivial ?_ ?_ ?_
 ·simp only [go_sem,seval,E9]<;>simp
 ·intro i _ hi hdi hwi _;have hlen:=tF aq.pS r.ns i;have hi2:i < (ot aq.pS r.ns i).length:=by omega
  have hm:=aD (c:=aq.cells) (ot aq.pS r.ns i) hi2;have hat:=Hr aq.pS hi;have hset:=Dn aq.pS hi;have hsame:=OK aq.pS hi;have hli:(i:Int) < (r.ns.length:Int):=by omega
  obtain ⟨x,hx⟩:=aL (r.ns[i]);rw [hat] at hm;rw [<- hx] at hm hset hsame;obtain ⟨M,hM⟩:=aL (ot aq.pS r.ns i);rw [<- hM] at hm hset hsame hlen |-;simp only [aq.cells] at hm;simp only [go_sem,seval,aG,hlen,hdi,hm];(with_reducible and_intros)<;>first|exact .dq|omega|skip
  cases b2:x.set==0
  ·have hset:M.set i { x with aR:=x.set,set:=0 }=ot aq.pS r.ns (i+1):=by rw [<- hset];simp only [aq.pS,b2];rfl
   have hsa:∀ Z,((M.map aq.cells).set i Z).getD i []=Z:=fun Z=>by simp [hlen,hi]
   simp only [go_sem,seval,bne,b2,aG,hlen,hm,hwi,hsa];(with_reducible and_intros)<;>first|exact .dq|omega|skip
   all_goals first
    | (simp only [List.length_set,aG];omega)
    | (refine ah.step () hi trivial ?_
       simp only [go_sem,seval,<- hset,List.map_set,List.set_set,hsa])
  ·have hsame:=hsame (by simp [aq.pS,b2]);simp only [go_sem,seval,bne,b2,hwi];refine ah.step () hi trivial ?_;simp only [go_sem,seval,hsame]
 ·intro _ hdx _;have hlen:=tF aq.pS r.ns r.ns.length;simp only [go_sem,seval,aG,hlen,hdx,Cu]
theorem GB (r:au) (h:r.jk):Abs.Spec Tryz.prog 138 [] [.agg r.cells] [] (.agg (Ix r).cells):=by
 refine Spec.frozen (JF r h) [0] rfl ?_;intro r;rcases r with _ | r<;>rfl
def mK (r:au) (ss:List Int):List Int:=pick (fun m:ak=>pY ss m.state) ak.no r.ms
theorem GR (r:au) (ss:List Int) (h:r.jk) (hs:ss.length < 2 ^ 30):Abs.Spec Tryz.prog 139 [] [.agg r.cells,.sl 1 (ints ss)] [.own 1 (ints (mK r ss))] (.ref 0):=by
 have hl:=h.1;simp only [au.cells];refine bg 47 2 [.tmp 4] mixed Tryz.func139 ?_;simp only [go_sem,seval];refine aC.walk (S:=Unit) r.ms.length [1,2] [48] (fun i _=>[(6,.int .i64 i),(5,.ref 736)]) (fun i _=>[(736,.own 1 (ints (pick (fun m:ak=>pY ss m.state) ak.no (r.ms.take i))))]) (fun _ _=>True) () trivial ?_ ?_ ?_
 ·simp only [go_sem,seval]<;>simp [pick,ints]
 ·intro i _ hi hdi hwi _;have hm:=aD (c:=ak.cells) r.ms hi;have hst:=fG (fun m:ak=>pY ss m.state) ak.no hi;have hlen:=bY (fun m:ak=>pY ss m.state) ak.no (r.ms.take i);have hlt:(r.ms.take i).length=i:=by simp;omega
  have hli:(i:Int) < (r.ms.length:Int):=by omega
  obtain ⟨L,hL⟩:=aL (pick (fun m:ak=>pY ss m.state) ak.no (r.ms.take i));obtain ⟨x,hx⟩:=aL (r.ms[i]);rw [<- hx] at hm hst;rw [<- hL] at hst hlen |-;simp only [ak.cells] at hm;simp only [go_sem,seval,aG,hdi,ay];refine aC.walk (S:=Unit) ss.length [1,2,5,6] [48,736] (fun k _=>[(8,.int .i64 k),(7,.bool (pY (ss.take k) x.state))]) (fun _ _=>[]) (fun _ _=>True) () trivial ?_ ?_ ?_
  ·simp only [go_sem,seval]<;>simp [pY]
  ·intro k _ hk hdk hwk _;have hst:=w6 ss x.state hk;have hlk:(k:Int) < (ss.length:Int):=by omega
   cases hb:pY (ss.take k) x.state
   ·rw [hb,Bool.false_or] at hst;simp only [go_sem,seval,aG,ay,hdk,ints_at ss hk,hm,hwk];(with_reducible and_intros)<;>first|exact .dq|omega|skip
    refine ah.step () hk trivial ?_;simp only [go_sem,seval,hst]
   ·rw [hb,Bool.true_or] at hst;simp only [go_sem,seval,aG,ay,hdk,ints_at ss hk,hm,hwk];(with_reducible and_intros)<;>first|exact .dq|omega|skip
    refine ah.step () hk trivial ?_;simp only [go_sem,seval,hst]
  ·intro _ hdk _;cases b1:pY ss x.state
   ·rw [b1] at hst;simp only [go_sem,seval,ay,aG,hdk,List.take_length,b1,hwi];(with_reducible and_intros)<;>first|exact .dq|omega|skip
    refine ah.step () hi trivial ?_;simp only [go_sem,seval,hst]<;>simp
   ·rw [b1] at hst;simp only [go_sem,seval,ay,aG,hdk,List.take_length,b1,hm,hwi];(with_reducible and_intros)<;>first|exact .dq|omega|skip
    refine ah.step () hi trivial ?_;simp only [go_sem,seval,hst]<;>simp
 ·intro _ hdx _;simp only [go_sem,seval,ay,aG,hdx,List.take_length,mK]
theorem uM (r:au) (ss:List Int) (h:r.jk) (hs:ss.length < 2 ^ 30):Abs.Spec Tryz.prog 139 [] [.agg r.cells,.sl 1 (ints ss)] [] (.sl 1 (ints (mK r ss))):=by
 refine Spec.frozen (GR r ss h hs) [0] rfl ?_;intro r;rcases r with _ | r<;>rfl
def dO (w n:Int) (p:aA):Bool:=p.who==w&&p.inst==n
def posOf (w n:Int):List aA->aA
 | []=>⟨w,n,0,0⟩
 | p :: r=>if dO w n p then p else posOf w n r
theorem m9 (b:aF) (w n:Int) (hb:b.small):Abs.Spec Tryz.prog 72 [] [.agg b.cells,.agg [.int .i64 w,.int .i64 n]] [] (.agg (posOf w n b.qs).cells):=by
 obtain ⟨h1,h2⟩:=hb;simp only [aF.cells];refine bg 42 2 [.cell 4 53] mixed Tryz.func72 ?_;simp only [go_sem,seval,aG];refine aC.walk (S:=Unit) b.qs.length [2,3,4] [48,64,80] (fun i _=>[(5,.int .i64 i)]) (fun _ _=>[]) (fun i _=>posOf w n (b.qs.drop i)=posOf w n b.qs) () rfl ?_ ?_ ?_
 ·simp only [go_sem,seval]<;>simp
 ·intro i _ hi hdi hwi hI;have hm:=aD (c:=aA.cells) b.qs hi;have hli:(i:Int) < (b.qs.length:Int):=by omega
  obtain ⟨x,hx⟩:=aL (b.qs[i]);rw [dy hi,<- hx] at hI;rw [<- hx] at hm;simp only [posOf,dO] at hI;simp only [aA.cells] at hm;cases q1:x.who==w
  ·simp only [q1,Bool.false_and,fY,if_false] at hI;simp only [go_sem,seval,aG,hdi,hm,q1,hwi];(with_reducible and_intros)<;>first|exact .dq|omega|skip
   refine ah.step () hi hI ?_;simp only [go_sem,seval]
  cases q2:x.inst==n
  ·simp only [q1,q2,Bool.and_false,fY,if_false] at hI;simp only [go_sem,seval,aG,hdi,hm,q1,q2,hwi];(with_reducible and_intros)<;>first|exact .dq|omega|skip
   refine ah.step () hi hI ?_;simp only [go_sem,seval]
  simp only [q1,q2,Bool.and_self,if_true] at hI;rw [<- hI];simp only [go_sem,seval,aG,hdi,hm,q1,q2];(with_reducible and_intros)<;>first|exact .dq|omega|skip
 ·intro _ hdx hI;rw [List.drop_length] at hI;rw [<- hI];simp only [go_sem,seval,aG,hdx,posOf]
def Pg (n:Int) (t:aI):Bool:=t.no==n&&!t.off
def gn (n:Int):List aI->Int
 | []=>-1
 | t :: r=>if Pg n t then 0 else if gn n r < 0 then -1 else gn n r+1
theorem Ew {n:Int}:∀ {xs:List aI} {i:Nat} (h:i < xs.length),(∀ j (hj:j < xs.length),j < i->Pg n xs[j]=false)->Pg n xs[i]=true->gn n xs=i
 | [],i,h,_,_=>by simp at h
 | x :: r,0,h,_,he=>by
  have he:Pg n x=true:=he;simp [gn,he]
 | x :: r,i+1,h,hn,he=>by
  have h0:Pg n x=false:=hn 0 (by simp) (by omega);have h2:=Ew (xs:=r) (i:=i) (by simpa using h) (fun j hj hji=>hn (j+1) (by simpa using hj) (by omega)) he;simp only [gn,h0,h2];rw [if_neg (by simp),if_neg (by omega)];omega
theorem Db {n:Int}:∀ {xs:List aI},(∀ j (hj:j < xs.length),Pg n xs[j]=false)->gn n xs = -1
 | [],_=>rfl
 | x :: r,hn=>by
  have h0:Pg n x=false:=hn 0 (by simp);have h2:=Db (xs:=r) (fun j hj=>hn (j+1) (by simpa using hj));simp [gn,h0,h2]
theorem qL (b:aF) (n:Int) (hb:b.small):Abs.Spec Tryz.prog 131 [] [.agg b.cells,.int .i64 n] [] (.int .i64 (gn n b.ts)):=by
 obtain ⟨h1,h2⟩:=hb;simp only [aF.cells];refine bg 31 2 [.tmp 4] mixed Tryz.func131 ?_;simp only [go_sem,seval,aG];refine aC.walk (S:=Unit) b.ts.length [1,2] [48] (fun i _=>[(5,.int .i64 i)]) (fun _ _=>[]) (fun i _=>∀ j (hj:j < b.ts.length),j < i->Pg n b.ts[j]=false) () (by intros;omega) ?_ ?_ ?_
 ·simp only [go_sem,seval]<;>simp
 ·intro i _ hi hdi hwi hI;have hm:=aD (c:=aI.cells) b.ts hi;have hli:(i:Int) < (b.ts.length:Int):=by omega
  have hhit:=Ew hi hI
  have hnext:Pg n b.ts[i]=false->∀ j (hj:j < b.ts.length),j < i+1->Pg n b.ts[j]=false:=fun h0 j hj hji=>by
   rcases Nat.lt_or_ge j i with h | h
   ·exact hI j hj h
   ·obtain rfl:j=i:=by omega
    exact h0
  obtain ⟨x,hx⟩:=aL (b.ts[i]);rw [<- hx] at hm hhit hnext;simp only [Pg] at hhit hnext;simp only [aI.cells] at hm;cases q1:x.no==n
  ·simp only [go_sem,seval,aG,hdi,hm,q1,hwi];(with_reducible and_intros)<;>first|exact .dq|omega|skip
   refine ah.step () hi (hnext (by simp [q1])) ?_;simp only [go_sem,seval]
  cases q2:x.off
  case true =>
   simp only [go_sem,seval,aG,hdi,hm,q1,q2,hwi];(with_reducible and_intros)<;>first|exact .dq|omega|skip
   refine ah.step () hi (hnext (by simp [q2])) ?_;simp only [go_sem,seval]
  simp only [go_sem,seval,aG,hdi,hm,q1,q2,hhit (by simp [q1,q2])];(with_reducible and_intros)<;>first|exact .dq|omega|skip
 ·intro _ hdx hI;simp only [go_sem,seval,aG,hdx,Db (fun j hj=>hI j hj hj)]
theorem uQ (x:aq):Abs.Spec Tryz.prog 188 [] [.agg x.cells] [] (.bI [.int .i64 (if x.set==0 then x.aR else x.set),.bool (!(x.set==0&&x.aR==0))]):=by
 simp only [aq.cells];refine bg 14 1 [.tmp 2,.tmp 3] mixed Tryz.func188 ?_;cases q1:x.set==0<;>cases q2:x.aR==0<;>simp only [go_sem,seval,bne,q1,q2,Bool.false_and,Bool.and_self,Bool.and_false,Bool.not_true,Bool.not_false]
 all_goals (with_reducible and_intros)<;>first|exact .dq|omega|skip
theorem yK (a b:Int) (ha:eW a) (hb:eW b):Abs.Spec Tryz.prog 190 [] [.int .i64 a,.int .i64 b] [] (.bI [.int .i64 (if bP (a*b) then a*b else 0),.bool (bP (a*b))]):=by
 have h1:=lP a b ha hb;have h2:=jU (a*b);simp only [wd] at h1 h2;refine bg 12 2 [.tmp 4,.tmp 5] mixed Tryz.func190 ?_;simp only [go_sem,seval];(with_reducible and_intros)<;>first|exact .dq|omega|skip
 refine aa.pure h1 ?_;simp only [go_sem,seval];(with_reducible and_intros)<;>first|exact .dq|omega|skip
 refine aa.pure h2 ?_;simp only [go_sem,seval]
def sizedB (t:aI):Bool:=within t.aV 1 1048576&&within t.aR 1 1073741824
def vD (r:au) (t:aI):Int:=if r.okB then (if sizedB t then (if bf r t.inst&&(eJ r t.fW&&eJ r t.dV) then (if t.fW==t.dV then 16 else if bC r t.fW==1&&bC r t.dV==1 then 0 else 14) else 10) else 3) else 14
theorem Eh (r:au) (t:aI) (h:r.jk):Abs.Spec Tryz.prog 128 [] [.agg r.cells,.agg t.cells] [] (.int .i64 (vD r t)):=by
 have c1:=dK r h.small;have c2:Abs.Spec Tryz.prog 179 [] [.agg t.cells] [] (.bool (sizedB t)):=pq t;have c3:=dc r t.inst h.small;have c4:=cj r t.fW h.small;have c5:=cj r t.dV h.small;obtain ⟨gi,hgi⟩:∃ g,g=aT r t.inst:=⟨_,rfl⟩
 obtain ⟨gb,hgb⟩:∃ g,g=fc r t.fW:=⟨_,rfl⟩
 obtain ⟨gs,hgs⟩:∃ g,g=fc r t.dV:=⟨_,rfl⟩
 have e:vD r t=if r.okB then (if sizedB t then (if bf r t.inst&&(eJ r t.fW&&eJ r t.dV) then (if t.fW==t.dV then 16 else if gb.state==1&&gs.state==1 then 0 else 14) else 10) else 3) else 14:=by rw [hgb,hgs];rfl
 rw [e];rw [<- hgi] at c3;rw [<- hgb] at c4;rw [<- hgs] at c5;clear e hgi hgb hgs;simp only [au.cells,aq.cells,ak.cells,aI.cells] at *;refine bg 61 2 [.tmp 4] mixed Tryz.func128 ?_;simp only [go_sem,seval];(with_reducible and_intros)<;>first|exact .dq|omega|skip
 refine aa.pure c1 ?_;cases b1:r.okB
 ·simp only [go_sem,seval]
 simp only [go_sem,seval];(with_reducible and_intros)<;>first|exact .dq|omega|skip
 refine aa.pure c2 ?_;cases b2:sizedB t
 ·simp only [go_sem,seval]
 simp only [go_sem,seval];(with_reducible and_intros)<;>first|exact .dq|omega|skip
 refine aa.pure c3 ?_;simp only [go_sem,seval];(with_reducible and_intros)<;>first|exact .dq|omega|skip
 refine aa.pure c4 ?_;simp only [go_sem,seval];(with_reducible and_intros)<;>first|exact .dq|omega|skip
 refine aa.pure c5 ?_;clear c1 c2 c3 c4 c5;cases q1:bf r t.inst<;>simp only [go_sem,seval,q1,Bool.false_and,Bool.true_and]<;>(with_reducible and_intros)<;>first|exact .dq|omega|skip
 cases q2:eJ r t.fW<;>simp only [go_sem,seval,q1,q2,Bool.false_and,Bool.true_and]<;>(with_reducible and_intros)<;>first|exact .dq|omega|skip
 cases q3:eJ r t.dV<;>simp only [go_sem,seval,q1,q2,q3]<;>(with_reducible and_intros)<;>first|exact .dq|omega|skip
 cases q4:t.fW==t.dV<;>simp only [go_sem,seval,q4]<;>(with_reducible and_intros)<;>first|exact .dq|omega|skip
 cases q5:gb.state==1<;>simp only [go_sem,seval,bne,q5,Bool.false_and,Bool.true_and]<;>(with_reducible and_intros)<;>first|exact .dq|omega|skip
 cases q6:gs.state==1<;>simp only [go_sem,seval,bne,q6]<;>(with_reducible and_intros)<;>first|exact .dq|omega|skip
def N8 (t:aI) (back:Bool):Int:=if back then -t.aV else t.aV
def fS (t:aI) (back:Bool):List aA:=if sizedB t then [⟨t.fW,t.inst,N8 t back,N8 t back*t.aR⟩,⟨t.dV,t.inst,-N8 t back,-N8 t back*t.aR⟩] else []
theorem DN (t:aI) (back:Bool):Abs.Spec Tryz.prog 183 [] [.agg t.cells,.bool back] [.own 4 ((fS t back).map aA.cells)] (.ref 0):=by
 have c2:Abs.Spec Tryz.prog 179 [] [.agg t.cells] [] (.bool (sizedB t)):=pq t;simp only [aI.cells] at *;refine bg 39 2 [.tmp 4] mixed Tryz.func183 ?_;simp only [go_sem,seval];(with_reducible and_intros)<;>first|exact .dq|omega|skip
 refine aa.pure c2 ?_;cases b2:sizedB t
 ·simp only [go_sem,seval,fS,b2]<;>simp
 have hz:=b2;simp only [sizedB,within,bZ,decide_eq_true_eq] at hz;obtain ⟨⟨a1,a2⟩,a3,a4⟩:=hz;cases back
 ·have m1:=eT (a:=t.aV) (b:=t.aR) (A:=1048576) (B:=1073741824) (by omega) (by omega);have m2:=eT (a:=-t.aV) (b:=t.aR) (A:=1048576) (B:=1073741824) (by omega) (by omega);have w1:IntKind.wrap .i64 (0-t.aV) = -t.aV:=by rw [bz (by omega) (by omega)];omega
  have w2:IntKind.wrap .i64 (t.aV*t.aR)=t.aV*t.aR:=bz (by omega) (by omega);have w3:IntKind.wrap .i64 (-t.aV*t.aR) = -t.aV*t.aR:=bz (by omega) (by omega);simp only [go_sem,seval,w1,w2,w3,fS,b2,N8]<;>simp
 ·have m1:=eT (a:=-t.aV) (b:=t.aR) (A:=1048576) (B:=1073741824) (by omega) (by omega);have m2:=eT (a:=t.aV) (b:=t.aR) (A:=1048576) (B:=1073741824) (by omega) (by omega);have w1:IntKind.wrap .i64 (0-t.aV) = -t.aV:=by rw [bz (by omega) (by omega)];omega
  have w0:IntKind.wrap .i64 (0 - -t.aV) = - -t.aV:=by rw [bz (by omega) (by omega)];omega
  have w2:IntKind.wrap .i64 (-t.aV*t.aR) = -t.aV*t.aR:=bz (by omega) (by omega);have hn:- -t.aV=t.aV:=by omega
  have w3:IntKind.wrap .i64 (- -t.aV*t.aR) = - -t.aV*t.aR:=by rw [hn];exact bz (by omega) (by omega)
  simp only [go_sem,seval,w1,w0,w2,w3,fS,b2,N8]<;>simp
theorem tG (t:aI) (back:Bool):Abs.Spec Tryz.prog 183 [] [.agg t.cells,.bool back] [] (.sl 4 ((fS t back).map aA.cells)):=by
 refine Spec.frozen (DN t back) [0] rfl ?_;intro r;rcases r with _ | r<;>rfl
theorem C5 (a b c:Int) (ha:eW a) (hb:eW (b*c)):Abs.Spec Tryz.prog 218 [] [.int .i64 a,.int .i64 b,.int .i64 c] [] (.agg (wd (a*(b*c)))):=by
 have h1:=lP a (b*c) ha hb;have w:IntKind.wrap .i64 (b*c)=b*c:=bz hb.1 (by have:=hb.2;omega);simp only [wd] at h1 |-;refine bg 12 3 [.cell 6 128] mixed Tryz.func218 ?_;simp only [go_sem,seval,w];(with_reducible and_intros)<;>first|exact .dq|omega|skip
 refine aa.pure h1 ?_;simp only [go_sem,seval]
def gI (p:aA) (m pr:Int):Int:=p.aV*(pr*m) + -p.cost*m
theorem uJ (p:aA) (m pr:Int) (hq:eW p.aV) (hc:bP p.cost=true) (hm:0<=m/\m<=1024) (hp:0<=pr/\pr<=1073741824):Abs.Spec Tryz.prog 189 [] [.agg p.cells,.int .i64 m,.int .i64 pr] [] (.bI [.int .i64 (if bP (gI p m pr) then gI p m pr else 0),.bool (bP (gI p m pr))]):=by
 have k1:=eT (a:=pr) (b:=m) (A:=1073741824) (B:=1024) (by omega) (by omega);have hcr:=cm.1 hc;have k0:0<=pr*m:=Int.mul_nonneg hp.1 hm.1;have k2:=eT (a:=p.aV) (b:=pr*m) (A:=9223372036854775808) (B:=1099511627776) (by have:=hq.1;have:=hq.2;omega) (by omega);have k3:=eT (a:=-p.cost) (b:=m) (A:=4611686018427387904) (B:=1024) (by omega) (by omega);have h1:=C5 p.aV pr m hq ⟨by omega,by omega⟩;have h2:=lP (-p.cost) m ⟨by omega,by omega⟩ ⟨by omega,by omega⟩;have i1:pg (p.aV*(pr*m))=true:=by simp only [pg,bZ,decide_eq_true_eq];omega
 have i2:pg (-p.cost*m)=true:=by simp only [pg,bZ,decide_eq_true_eq];omega
 have h3:=jW [p.aV*(pr*m),-p.cost*m] (by simp) (by intro n hn;simp only [List.mem_cons,List.not_mem_nil,or_false] at hn;rcases hn with rfl | rfl<;>assumption);have es:az [p.aV*(pr*m),-p.cost*m]=gI p m pr:=by simp [az,gI]
 have i3:pg (gI p m pr)=true:=by
  have hw:gI p m pr=p.aV*(pr*m) + -p.cost*m:=rfl;rw [hw];clear hw es h3 h2 h1;simp only [pg,bZ,decide_eq_true_eq];constructor<;>omega
 rw [es,i3,if_pos rfl] at h3;have h4:=jU (gI p m pr);have w:IntKind.wrap .i64 (0-p.cost) = -p.cost:=by rw [bz (by omega) (by omega)];omega
 simp only [kD,wd,List.map_cons,List.map_nil] at h1 h2 h3 h4;simp only [aA.cells];obtain ⟨A,hA⟩:=aL (p.aV*(pr*m));obtain ⟨B,hB⟩:=aL (-p.cost*m);obtain ⟨C,hC⟩:=aL (gI p m pr);rw [<- hA] at h1 h3;rw [<- hB] at h2 h3;rw [<- hC] at h3 h4 |-;clear hA hB hC k1 k0 k2 k3 i1 i2 es i3;refine bg 31 3 [.tmp 6,.tmp 7] mixed Tryz.func189 ?_;simp only [go_sem,seval];(with_reducible and_intros)<;>first|exact .dq|omega|skip
 refine aa.pure h1 ?_;simp only [go_sem,seval,w];(with_reducible and_intros)<;>first|exact .dq|omega|skip
 refine aa.pure h2 ?_;simp only [go_sem,seval];(with_reducible and_intros)<;>first|exact .dq|omega|skip
 refine aa.gen [] [] true (by simp) ?_;simp only [go_sem,seval];refine aY.intro h3 ?_;simp only [go_sem,seval];(with_reducible and_intros)<;>first|exact .dq|omega|skip
 refine aa.pure h4 ?_;simp only [go_sem,seval]
theorem GF (b:aF) (h:b.small):Abs.Spec Tryz.prog 11 [] [.agg b.cells] [.own 7 (b.ts.map aI.cells)] (.agg [.int .i64 b.next,.ref 0,.sl 4 (b.qs.map aA.cells)]):=by
 refine Spec.frozen (o7 b h) [1] rfl ?_;intro r;rcases r with _ | _ | r<;>rfl
def qm (p:aA):Bool:=oA p.who p.inst&&(bP p.aV&&bP p.cost)
def Fq (g:List aA):Bool:=(List.range 8).all fun i=>az (pick (fun p:aA=>p.inst==(i:Int)+1) aA.aV g)==0
def Fz (b:aF) (g:List aA) (w n:Int):Int:=az ((posOf w n b.qs).aV :: pick (dO w n) aA.aV g)
def Q6 (b:aF) (g:List aA) (w n:Int):Int:=az ((posOf w n b.qs).cost :: pick (dO w n) aA.cost g)
def CL (b:aF) (g:List aA) (w n:Int):Bool:=bP (Fz b g w n)&&(bP (Q6 b g w n)&&within (Fz b g w n) (-1099511627776) 1099511627776)
def DS (b:aF) (g:List aA) (w n:Int):List aA:=if Fz b g w n==0&&Q6 b g w n==0 then [] else [⟨w,n,Fz b g w n,Q6 b g w n⟩]
def Ky (b:aF) (g:List aA) (w:Int) (i:Nat):List aA:=(List.range i).flatMap fun (k:Nat)=>DS b g w ((k:Int)+1)
def vO (b:aF) (g:List aA) (i:Nat):List aA:=(List.range i).flatMap fun (k:Nat)=>Ky b g ((k:Int)+1) 8
def Il (b:aF) (g:List aA) (w:Int):Bool:=(List.range 8).all fun (k:Nat)=>CL b g w ((k:Int)+1)
def yT (b:aF) (g:List aA):Bool:=(List.range 16).all fun (k:Nat)=>Il b g ((k:Int)+1)
def jh (b:aF) (g:List aA):Int:=if b.okB then (if g.all qm then (if Fq g then (if yT b g then 0 else 1) else 12) else 3) else 14
def so (b:aF) (g:List aA):aF:=if jh b g=0 then ⟨b.next,b.ts,vO b g 16⟩ else ⟨0,[],[]⟩
theorem RR (b:aF) (g:List aA) (w n:Int):(DS b g w n).length<=1:=by unfold DS;split<;>simp
theorem M3 (b:aF) (g:List aA) (w:Int) (i:Nat):(Ky b g w i).length<=i:=by
 have:=xN (f:=fun (k:Nat)=>DS b g w ((k:Int)+1)) (m:=1) (fun k=>RR _ _ _ _) i;simpa [Ky] using this
theorem AF (b:aF) (g:List aA) (i:Nat):(vO b g i).length<=8*i:=xN (f:=fun (k:Nat)=>Ky b g ((k:Int)+1) 8) (fun k=>M3 _ _ _ _) i
theorem EC {w n:Int}:∀ {qs:List aA},(∀ p∈qs,p.cE)->eW (posOf w n qs).aV/\eW (posOf w n qs).cost
 | [],_=>by simp [posOf,eW]
 | p :: r,h=>by
  simp only [posOf];split
  ·have:=h p (by simp);exact ⟨this.2.2.1,this.2.2.2⟩
  ·exact EC fun q hq=>h q (by simp [hq])
theorem qR (b:aF) (g:List aA) (hb:b.small) (hr:∀ p∈b.qs,p.cE) (hg:g.length < 2 ^ 29):Abs.Spec Tryz.prog 182 [] [.agg b.cells,.sl 4 (g.map aA.cells)] [.own 7 ((so b g).ts.map aI.cells),.own 4 ((so b g).qs.map aA.cells)] (.bI [.agg [.int .i64 (so b g).next,.ref 0,.ref 1],.int .i64 (jh b g)]):=by
 have c1:=gR b hb hr;have c2:=GF b hb;have c3:=fun w n=>m9 b w n hb
 have hpr:=fun w n=>EC (w:=w) (n:=n) hr
 simp only [aF.cells] at c1 c2 c3 |-;refine bg 199 2 [.cell 4 33,.tmp 5] mixed Tryz.func182 ?_;simp only [go_sem,seval];(with_reducible and_intros)<;>first|exact .dq|omega|skip
 refine aa.pure c1 ?_;cases b1:b.okB
 ·have e:jh b g=14:=by simp [jh,b1]
  simp only [go_sem,seval,so,e]<;>simp
 have e:jh b g=if g.all qm then (if Fq g then (if yT b g then 0 else 1) else 12) else 3:=by simp [jh,b1]
 simp only [so];rw [e];clear e c1;simp only [go_sem,seval];refine aC.walk (S:=Unit) g.length [1,2,4] [48,80] (fun i _=>[(6,.int .i64 i)]) (fun _ _=>[]) (fun i _=>(g.drop i).all qm=g.all qm) () rfl ?_ ?_ ?_
 ·simp only [go_sem,seval]<;>simp
 ·intro i _ hi hdi hwi hI;have hm:=aD (c:=aA.cells) g hi;have hli:(i:Int) < (g.length:Int):=by omega
  obtain ⟨x,hx⟩:=aL (g[i]);have k1:=oI x.who x.inst;have k2:=cZ x.aV;have k3:=cZ x.cost;rw [dy hi,<- hx] at hI;rw [<- hx] at hm;simp only [List.all_cons,qm] at hI;simp only [aA.cells] at hm;clear c2 c3;simp only [go_sem,seval,aG,hdi,hm];(with_reducible and_intros)<;>first|exact .dq|omega|skip
  refine aa.pure k1 ?_;cases q1:oA x.who x.inst
  ·rw [q1,Bool.false_and,Bool.false_and] at hI;have hI':g.all qm=false:=hI.symm;simp only [go_sem,seval,q1,hI']
   all_goals simp
  simp only [go_sem,seval,q1,aG,hm];(with_reducible and_intros)<;>first|exact .dq|omega|skip
  refine aa.pure k2 ?_;cases q2:bP x.aV
  ·rw [q1,q2,Bool.false_and,Bool.and_false,Bool.false_and] at hI;have hI':g.all qm=false:=hI.symm;simp only [go_sem,seval,q2,hI']
   all_goals simp
  simp only [go_sem,seval,q2,aG,hm];(with_reducible and_intros)<;>first|exact .dq|omega|skip
  refine aa.pure k3 ?_;cases q3:bP x.cost
  ·rw [q1,q2,q3,Bool.and_false,Bool.and_false,Bool.false_and] at hI;have hI':g.all qm=false:=hI.symm;simp only [go_sem,seval,q3,hI']
   all_goals simp
  rw [q1,q2,q3,Bool.and_self,Bool.and_self,Bool.true_and] at hI;simp only [go_sem,seval,q3,hwi];(with_reducible and_intros)<;>first|exact .dq|omega|skip
  refine ah.step () hi hI ?_;simp only [go_sem,seval]
 intro _ hdx hI;rw [List.drop_length] at hI;have hall:g.all qm=true:=hI.symm
 have hgm:∀ p∈g,bP p.aV=true/\bP p.cost=true:=fun p hp=>by
  have:=List.all_eq_true.1 hall p hp;simp only [qm,bZ] at this;exact this.2
 rw [hall];simp only [go_sem,seval,aG,hdx];clear hI hdx;refine aC.walk (S:=Unit) 8 [1,2,4] [48,80] (fun i _=>[(7,.int .i64 ((i:Int)+1))]) (fun _ _=>[]) (fun i _=>∀ k < i,(az (pick (fun p:aA=>p.inst==((k:Nat):Int)+1) aA.aV g)==0)=true) () (by simp) ?_ ?_ ?_
 ·simp only [go_sem,seval]<;>simp
 ·intro c _ hc _ _ hI;obtain ⟨n,hn⟩:=aL ((c:Int)+1);have hd:decide (n<=8)=true:=decide_eq_true (by omega);have hw:IntKind.wrap .i64 (n+1)=((c+1:Nat):Int)+1:=by rw [bz (by omega) (by omega)];omega
  have hA:=ct (pick (fun p:aA=>p.inst==n) aA.aV g) (kM fun p hp=>nR (hgm p hp).1) (by have:=bY (fun p:aA=>p.inst==n) aA.aV g;omega);have h0:=Z8 (pick (fun p:aA=>p.inst==n) aA.aV g)
  have hbad:(az (pick (fun p:aA=>p.inst==n) aA.aV g)==0)=false->Fq g=false:=fun h=>by
   rw [Fq,List.all_eq_false];exact ⟨c,List.mem_range.2 hc,by rw [<- hn,h];simp⟩
  rw [<- hn];clear c2 c3;simp only [go_sem,seval,hd,aG];refine aC.walk (S:=Unit) g.length [1,2,4,7] [48,80] (fun i _=>[(9,.int .i64 i),(8,.ref 1360)]) (fun i _=>[(1360,.own 1 (ints (pick (fun p:aA=>p.inst==n) aA.aV (g.take i))))]) (fun _ _=>True) () trivial ?_ ?_ ?_
  ·simp only [go_sem,seval]<;>simp [pick,ints]
  ·intro i _ hi hdi hwi _;have hm:=aD (c:=aA.cells) g hi;have hs:=fG (fun p:aA=>p.inst==n) aA.aV hi;have hlen:=bY (fun p:aA=>p.inst==n) aA.aV (g.take i);have hlt:(g.take i).length=i:=by simp;omega
   have hli:(i:Int) < (g.length:Int):=by omega
   obtain ⟨L,hL⟩:=aL (pick (fun p:aA=>p.inst==n) aA.aV (g.take i));obtain ⟨x,hx⟩:=aL (g[i]);rw [<- hx,<- hL] at hs;rw [<- hx] at hm;rw [<- hL] at hlen |-;simp only [aA.cells] at hm;simp only [go_sem,seval,aG,hdi,hm];(with_reducible and_intros)<;>first|exact .dq|omega|skip
   cases hb:x.inst==n
   ·rw [hb] at hs;simp only [go_sem,seval,hwi];refine ah.step () hi trivial ?_;simp only [go_sem,seval,hs]<;>simp
   ·rw [hb] at hs;simp only [go_sem,seval,hwi,ay,aG,hm];(with_reducible and_intros)<;>first|exact .dq|omega|skip
    refine ah.step () hi trivial ?_;simp only [go_sem,seval,hs]<;>simp
  ·intro _ hdx _;simp only [go_sem,seval,hdx,aG,List.take_length];refine aa.gen [] [] true (by simp) ?_;simp only [go_sem,seval];refine aY.intro hA ?_;obtain ⟨L,hL⟩:=aL (pick (fun p:aA=>p.inst==n) aA.aV g);rw [<- hL] at h0 hbad |-;cases b1:bP (az L)
   ·have hbad:=hbad (by rw [<- h0,b1];rfl);simp only [go_sem,seval,b1,hbad]
    all_goals simp
   cases b2:addN L==0
   ·have hbad:=hbad (by rw [<- h0,b1,b2];rfl);simp only [go_sem,seval,b1,bne,b2,hbad]
    all_goals simp
   rw [b1,b2] at h0;simp only [go_sem,seval,b1,bne,b2,hw];(with_reducible and_intros)<;>first|exact .dq|omega|skip
   refine ah.step () hc ?_ ?_
   ·intro k hk;rcases Nat.lt_or_ge k c with h | h
    ·exact hI k h
    ·obtain rfl:k=c:=by omega
     rw [<- hn,<- hL];exact h0.symm
   ·simp only [go_sem,seval]
 intro _ _ hI;have hfl:Fq g=true:=List.all_eq_true.2 fun c hc=>hI c (List.mem_range.1 hc)
 rw [hfl];clear hI hfl hall;simp only [go_sem,seval];(with_reducible and_intros)<;>first|exact .dq|omega|skip
 refine aa.gen [] [] false (by simp) ?_;simp only [go_sem,seval];refine aY.intro c2 ?_;clear c2;simp only [go_sem,seval];(with_reducible and_intros)<;>first|exact .dq|omega|skip
 refine aC.walk (S:=Unit) 16 [1,2,4,12] [48,80,1584] (fun i _=>[(13,.int .i64 ((i:Int)+1))]) (fun i _=>[(208,.box [.int .i64 b.next,.ref 1584,.ref 3152]),(3152,.own 4 ((vO b g i).map aA.cells))]) (fun i _=>∀ k < i,Il b g (((k:Nat):Int)+1)=true) () (by simp) ?_ ?_ ?_
 ·simp only [go_sem,seval]<;>simp [vO]
 ·intro i _ hi _ _ hI;obtain ⟨w,hw⟩:=aL ((i:Int)+1);have hd:decide (w<=16)=true:=decide_eq_true (by omega);have hww:IntKind.wrap .i64 (w+1)=((i+1:Nat):Int)+1:=by rw [bz (by omega) (by omega)];omega
  have hnx:vO b g (i+1)=vO b g i++Ky b g w 8:=by rw [hw];exact ud _ i
  have hwl:=AF b g i
  have hbad:Il b g w=false->yT b g=false:=fun h=>by
   rw [yT,List.all_eq_false];exact ⟨i,List.mem_range.2 hi,by rw [<- hw,h];simp⟩
  obtain ⟨W,hW⟩:=aL (vO b g i);rw [<- hW] at hnx hwl |-;rw [<- hw];simp only [go_sem,seval,hd];refine aC.walk (S:=Unit) 8 [1,2,4,12,13] [48,80,1584] (fun j _=>[(14,.int .i64 ((j:Int)+1))]) (fun j _=>[(208,.box [.int .i64 b.next,.ref 1584,.ref 3152]),(3152,.own 4 ((W++Ky b g w j).map aA.cells))]) (fun j _=>∀ k < j,CL b g w (((k:Nat):Int)+1)=true) () (by simp) ?_ ?_ ?_
  ·simp only [go_sem,seval]<;>simp [Ky]
  ·intro j _ hj _ _ hJ;obtain ⟨n,hn⟩:=aL ((j:Int)+1);have hd:decide (n<=8)=true:=decide_eq_true (by omega);have hwn:IntKind.wrap .i64 (n+1)=((j+1:Nat):Int)+1:=by rw [bz (by omega) (by omega)];omega
   have hnn:Ky b g w (j+1)=Ky b g w j++DS b g w n:=by rw [hn];exact ud _ j
   have hnl:=M3 b g w j
   have hbad2:CL b g w n=false->yT b g=false:=fun h=>hbad (by
    rw [Il,List.all_eq_false]
    exact ⟨j,List.mem_range.2 hj,by rw [<- hn,h];simp⟩)
   have hP:=c3 w n;have hpr:=hpr w n;obtain ⟨p,hp⟩:=aL (posOf w n b.qs);rw [<- hp] at hP hpr;obtain ⟨V,hV⟩:=aL (W++Ky b g w j);have hVl:V.length<=200:=by rw [hV,List.length_append];omega
   have hnV:W++Ky b g w (j+1)=V++DS b g w n:=by rw [hnn,hV,List.append_assoc]
   have hA:=ct (p.aV :: pick (dO w n) aA.aV g) (fun x hx=>by
    rcases List.mem_cons.1 hx with rfl | hx
    ·exact hpr.1
    ·exact kM (fun q hq=>nR (hgm q hq).1) x hx) (by have:=bY (dO w n) aA.aV g;simp only [List.length_cons];omega)
   have hB:=ct (p.cost :: pick (dO w n) aA.cost g) (fun x hx=>by
    rcases List.mem_cons.1 hx with rfl | hx
    ·exact hpr.2
    ·exact kM (fun q hq=>nR (hgm q hq).2) x hx) (by have:=bY (dO w n) aA.cost g;simp only [List.length_cons];omega)
   have eq:az (p.aV :: pick (dO w n) aA.aV g)=Fz b g w n:=by rw [hp];rfl
   have ec:az (p.cost :: pick (dO w n) aA.cost g)=Q6 b g w n:=by rw [hp];rfl
   rw [<- hV,<- hn];simp only [aA.cells] at hP;clear c3 hV hp hW hnn hnx;simp only [go_sem,seval,hd];(with_reducible and_intros)<;>first|exact .dq|omega|skip
   refine aa.pure hP ?_;simp only [go_sem,seval,aG];(with_reducible and_intros)<;>first|exact .dq|omega|skip
   refine aC.walk (S:=Unit) g.length [1,2,4,12,13,14] [48,80,208,1584,3152] (fun i _=>[(18,.int .i64 i),(16,.ref 2416),(17,.ref 2544)]) (fun i _=>[(2416,.own 1 (ints (p.aV :: pick (dO w n) aA.aV (g.take i)))),(2544,.own 1 (ints (p.cost :: pick (dO w n) aA.cost (g.take i))))]) (fun _ _=>True) () trivial ?_ ?_ ?_
   ·simp only [go_sem,seval]<;>simp [pick,ints]
   ·intro i _ hi hdi hwi _;have hm:=aD (c:=aA.cells) g hi;have hs1:=fG (dO w n) aA.aV hi;have hs2:=fG (dO w n) aA.cost hi;have hl1:=bY (dO w n) aA.aV (g.take i);have hl2:=bY (dO w n) aA.cost (g.take i);have hlt:(g.take i).length=i:=by simp;omega
    have hli:(i:Int) < (g.length:Int):=by omega
    have hs1:ints (p.aV :: pick (dO w n) aA.aV (g.take (i+1)))=ints (p.aV :: pick (dO w n) aA.aV (g.take i))++(if dO w n g[i] then [[.int .i64 g[i].aV]] else []):=congrArg (fun z:List (List D)=>([D.int .i64 p.aV]:List D) :: z) hs1;have hs2:ints (p.cost :: pick (dO w n) aA.cost (g.take (i+1)))=ints (p.cost :: pick (dO w n) aA.cost (g.take i))++(if dO w n g[i] then [[.int .i64 g[i].cost]] else []):=congrArg (fun z:List (List D)=>([D.int .i64 p.cost]:List D) :: z) hs2;have hl1:(p.aV :: pick (dO w n) aA.aV (g.take i)).length<=i+1:=by simp only [List.length_cons];omega
    have hl2:(p.cost :: pick (dO w n) aA.cost (g.take i)).length<=i+1:=by simp only [List.length_cons];omega
    obtain ⟨L,hL⟩:=aL (p.aV :: pick (dO w n) aA.aV (g.take i));obtain ⟨M,hM⟩:=aL (p.cost :: pick (dO w n) aA.cost (g.take i));obtain ⟨x,hx⟩:=aL (g[i]);rw [<- hx,<- hL] at hs1;rw [<- hx,<- hM] at hs2;rw [<- hx] at hm;rw [<- hL] at hl1;rw [<- hM] at hl2;rw [<- hL,<- hM];simp only [dO] at hs1 hs2;simp only [aA.cells] at hm;clear hL hM;cases q1:x.who==w
    ·simp only [q1,Bool.false_and,fY,if_false,List.append_nil] at hs1 hs2;simp only [go_sem,seval,aG,hdi,hm,q1,hwi];(with_reducible and_intros)<;>first|exact .dq|omega|skip
     refine ah.step () hi trivial ?_;simp only [go_sem,seval,hs1,hs2]
    cases q2:x.inst==n
    ·simp only [q1,q2,Bool.and_false,fY,if_false,List.append_nil] at hs1 hs2;simp only [go_sem,seval,aG,hdi,hm,q1,q2,hwi];(with_reducible and_intros)<;>first|exact .dq|omega|skip
     refine ah.step () hi trivial ?_;simp only [go_sem,seval,hs1,hs2]
    simp only [q1,q2,Bool.and_self,if_true] at hs1 hs2;simp only [go_sem,seval,aG,hdi,hm,q1,q2,hwi,ay];(with_reducible and_intros)<;>first|exact .dq|omega|skip
    refine ah.step () hi trivial ?_;simp only [go_sem,seval,hs1,hs2]
   ·intro _ hdx _;simp only [go_sem,seval,hdx,aG,List.take_length];(with_reducible and_intros)<;>first|exact .dq|omega|skip
    refine aa.gen [] [] true (by simp) ?_;simp only [go_sem,seval];refine aY.intro hA ?_;simp only [go_sem,seval];(with_reducible and_intros)<;>first|exact .dq|omega|skip
    refine aa.gen [] [] true (by simp) ?_;simp only [go_sem,seval];refine aY.intro hB ?_;simp only [addN,eq,ec];clear hA hB;have hW:=bn (Fz b g w n) (-1099511627776) 1099511627776;simp only [CL] at hbad2;simp only [DS] at hnV;obtain ⟨X,hX⟩:=aL (Fz b g w n);obtain ⟨Y,hY⟩:=aL (Q6 b g w n);have hokX:(bP X&&(bP Y&&within X (-1099511627776) 1099511627776))=CL b g w n:=by rw [hX,hY];rfl
    rw [<- hX,<- hY] at hbad2 hnV;rw [<- hX] at hW;rw [<- hX,<- hY];cases b1:bP X
    ·have hbad2:=hbad2 (by rw [b1];rfl);simp only [go_sem,seval,b1,hbad2]
     all_goals simp
    cases b2:bP Y
    ·have hbad2:=hbad2 (by rw [b1,b2];rfl);simp only [go_sem,seval,b1,b2,hbad2]
     all_goals simp
    simp only [go_sem,seval,b1,b2];(with_reducible and_intros)<;>first|exact .dq|omega|skip
    refine aa.pure hW ?_;cases b3:within X (-1099511627776) 1099511627776
    ·have hbad2:=hbad2 (by rw [b1,b2,b3];rfl);simp only [go_sem,seval,b3,hbad2]
     all_goals simp
    have hJ2:∀ k < j+1,CL b g w (((k:Nat):Int)+1)=true:=fun k hk=>by
     rcases Nat.lt_or_ge k j with h | h
     ·exact hJ k h
     ·obtain rfl:k=j:=by omega
      rw [<- hn,<- hokX,b1,b2,b3];rfl
    cases q1:X==0
    ·simp only [q1,Bool.false_and,fY,if_false] at hnV;simp only [go_sem,seval,b3,bne,q1,hwn,aG];(with_reducible and_intros)<;>first|exact .dq|omega|skip
     refine ah.step () hj hJ2 ?_;simp only [go_sem,seval,hnV]<;>simp
    cases q2:Y==0
    ·simp only [q1,q2,Bool.and_false,fY,if_false] at hnV;simp only [go_sem,seval,b3,bne,q1,q2,hwn,aG];(with_reducible and_intros)<;>first|exact .dq|omega|skip
     refine ah.step () hj hJ2 ?_;simp only [go_sem,seval,hnV]<;>simp
    simp only [q1,q2,Bool.and_self,if_true,List.append_nil] at hnV;simp only [go_sem,seval,b3,bne,q1,q2,hwn];(with_reducible and_intros)<;>first|exact .dq|omega|skip
    refine ah.step () hj hJ2 ?_;simp only [go_sem,seval,hnV]
  ·intro _ _ hJ;have hok:Il b g w=true:=List.all_eq_true.2 fun k hk=>hJ k (List.mem_range.1 hk)
   simp only [go_sem,seval,hww];(with_reducible and_intros)<;>first|exact .dq|omega|skip
   refine ah.step () hi ?_ ?_
   ·intro k hk;rcases Nat.lt_or_ge k i with h | h
    ·exact hI k h
    ·obtain rfl:k=i:=by omega
     rw [<- hw];exact hok
   ·simp only [go_sem,seval,hnx]
 ·intro _ _ hI;have hok:yT b g=true:=List.all_eq_true.2 fun k hk=>hI k (List.mem_range.1 hk)
  simp only [go_sem,seval,hok]
theorem O5 {b:aF} (h:b.okB=true):0<=b.next/\b.next<=1099511627776/\b.ts.length<=128:=by
 simp only [aF.okB,bZ,Bool.not_eq_true',decide_eq_false_iff_not] at h;omega
theorem ke {b:aF} {g:List aA} (h:jh b g=0):b.okB=true/\so b g=⟨b.next,b.ts,vO b g 16⟩:=by
 refine ⟨?_,by simp [so,h]⟩;unfold jh at h;split at h
 ·assumption
 ·cases h
theorem Mr {b:aF} {g:List aA} (h:jh b g≠0):so b g=⟨0,[],[]⟩:=by simp [so,h]
def fJ (b:aF) (t:aI):Int:=if b.okB then (if t.okB then (if 128<=b.ts.length then 9 else if b.next=1099511627776 then 1 else jh b (fS t false)) else 3) else 14
def gL (b:aF) (t:aI):aF:=if fJ b t=0 then ⟨b.next+1,b.ts++[{ t with no:=b.next+1,off:=false }],vO b (fS t false) 16⟩ else ⟨0,[],[]⟩
def pQ (b:aF) (t:aI):Int:=if fJ b t=0 then b.next+1 else 0
theorem EG (t:aI) (k:Bool):(fS t k).length<=2:=by unfold fS;split<;>simp
theorem Gn (b:aF) (t:aI) (hb:b.small) (hr:∀ p∈b.qs,p.cE):Abs.Spec Tryz.prog 129 [] [.agg b.cells,.agg t.cells] [.own 7 ((gL b t).ts.map aI.cells),.own 4 ((gL b t).qs.map aA.cells)] (.bI [.agg [.int .i64 (gL b t).next,.ref 0,.ref 1],.int .i64 (pQ b t),.int .i64 (fJ b t)]):=by
 have c1:=gR b hb hr;have c2:=rV t;have c3:=tG t false;have c4:=qR b (fS t false) hb hr (by have:=EG t false;omega);have hlt:=hb.1;simp only [aF.cells,aI.cells] at c1 c2 c3 c4 |-;refine bg 54 2 [.cell 4 33,.tmp 5,.tmp 6] mixed Tryz.func129 ?_;simp only [go_sem,seval];(with_reducible and_intros)<;>first|exact .dq|omega|skip
 refine aa.pure c1 ?_;cases b1:b.okB
 ·have e:fJ b t=14:=by simp [fJ,b1]
  simp only [go_sem,seval,gL,pQ,e]
  all_goals simp
 obtain ⟨n1,n2,n3⟩:=O5 b1;simp only [go_sem,seval];(with_reducible and_intros)<;>first|exact .dq|omega|skip
 refine aa.pure c2 ?_;cases b2:t.okB
 ·have e:fJ b t=3:=by simp [fJ,b1,b2]
  simp only [go_sem,seval,gL,pQ,e]
  all_goals simp
 by_cases b3:128<=b.ts.length
 ·have e:fJ b t=9:=by simp [fJ,b1,b2,b3]
  have d:decide ((128:Int)<=(b.ts.length:Int))=true:=decide_eq_true (by omega);simp only [go_sem,seval,aG,d,gL,pQ,e]
  all_goals simp
 have d3:decide ((128:Int)<=(b.ts.length:Int))=false:=decide_eq_false (by omega)
 by_cases b4:b.next=1099511627776
 ·have e:fJ b t=1:=by simp only [fJ,b1,b2,if_neg b3,if_pos b4];rfl
  have d:(b.next==1099511627776)=true:=by simpa using b4
  simp only [go_sem,seval,aG,d3,d,gL,pQ,e]
  all_goals simp
 have d4:(b.next==1099511627776)=false:=by simpa using b4
 have e:fJ b t=jh b (fS t false):=by simp only [fJ,b1,b2,if_neg b3,if_neg b4];rfl
 have w:IntKind.wrap .i64 (b.next+1)=b.next+1:=bz (by omega) (by omega)
 simp only [gL,pQ];rw [e];clear e c1 c2;simp only [go_sem,seval,aG,d3,d4];(with_reducible and_intros)<;>first|exact .dq|omega|skip
 refine aa.pure c3 ?_;simp only [go_sem,seval];(with_reducible and_intros)<;>first|exact .dq|omega|skip
 refine aa.gen [] [] false (by simp) ?_;simp only [go_sem,seval];refine aY.intro c4 ?_
 by_cases b5:jh b (fS t false)=0
 ·have hB:=(ke b5).2;rw [hB,b5];simp only [go_sem,seval,w,aG];(with_reducible and_intros)<;>first|exact .dq|omega|skip
  all_goals simp
 ·have hB:=Mr b5;have d5:(jh b (fS t false)==0)=false:=by simpa using b5
  rw [hB,if_neg b5,if_neg b5];simp only [go_sem,seval,bne,d5,aG];(with_reducible and_intros)<;>first|exact .dq|omega|skip
  all_goals simp
theorem uP (b:aF) (t:aI) (hb:b.small) (hr:∀ p∈b.qs,p.cE):Abs.Spec Tryz.prog 129 [] [.agg b.cells,.agg t.cells] [] (.bI [.agg (gL b t).cells,.int .i64 (pQ b t),.int .i64 (fJ b t)]):=by
 refine Spec.frozen (Gn b t hb hr) [0,1] rfl ?_;intro r;rcases r with _ | _ | r<;>rfl
theorem tg {n:Int}:∀ {ts:List aI},¬ gn n ts < 0->∃ (i:Nat) (h:i < ts.length),gn n ts=i/\Pg n ts[i]=true
 | [],h=>by simp [gn] at h
 | t :: r,h=>by
  simp only [gn] at h |-;split at h
  ·rename_i h1;exact ⟨0,by simp,by rw [if_pos h1];rfl,h1⟩
  ·rename_i h1;split at h
   ·omega
   ·rename_i h2;obtain ⟨i,hi,e,ho⟩:=tg (ts:=r) h2;refine ⟨i+1,by simp;omega,?_,by simpa using ho⟩;rw [if_neg h1,if_neg h2,e];rfl
def ck (n:Int) (ts:List aI):aI:=ts.getD (gn n ts).toNat ⟨0,0,0,0,0,0,false⟩
def Nl (n:Int) (ts:List aI):List aI:=ts.set (gn n ts).toNat { ck n ts with off:=true }
def eg (b:aF) (n:Int):Int:=if b.okB then (if gn n b.ts < 0 then 10 else jh b (fS (ck n b.ts) true)) else 14
def dI (b:aF) (n:Int):aF:=if eg b n=0 then ⟨b.next,Nl n b.ts,vO b (fS (ck n b.ts) true) 16⟩ else ⟨0,[],[]⟩
theorem D9 (b:aF) (n:Int) (hb:b.small) (hr:∀ p∈b.qs,p.cE):Abs.Spec Tryz.prog 132 [] [.agg b.cells,.int .i64 n] [.own 7 ((dI b n).ts.map aI.cells),.own 4 ((dI b n).qs.map aA.cells)] (.bI [.agg [.int .i64 (dI b n).next,.ref 0,.ref 1],.int .i64 (eg b n)]):=by
 have c1:=gR b hb hr;have c2:=qL b n hb;have c3:=tG (ck n b.ts) true;have c4:=qR b (fS (ck n b.ts) true) hb hr (by have:=EG (ck n b.ts) true;omega);have hlt:=hb.1;simp only [aF.cells] at c1 c2 c3 c4 |-;refine bg 40 2 [.cell 4 33,.tmp 5] mixed Tryz.func132 ?_;simp only [go_sem,seval];(with_reducible and_intros)<;>first|exact .dq|omega|skip
 refine aa.pure c1 ?_;cases b1:b.okB
 ·have e:eg b n=14:=by simp [eg,b1]
  simp only [go_sem,seval,dI,e]
  all_goals simp
 simp only [go_sem,seval];(with_reducible and_intros)<;>first|exact .dq|omega|skip
 refine aa.pure c2 ?_
 by_cases b2:gn n b.ts < 0
 ·have e:eg b n=10:=by simp [eg,b1,b2]
  have d:decide (gn n b.ts < 0)=true:=decide_eq_true b2;simp only [go_sem,seval,d,dI,e]
  all_goals simp
 have d2:decide (gn n b.ts < 0)=false:=decide_eq_false b2;have e:eg b n=jh b (fS (ck n b.ts) true):=by simp only [eg,b1,if_neg b2];rfl
 obtain ⟨i,hi,hfi,hon⟩:=tg b2;have hm:=aD (c:=aI.cells) b.ts hi;have hta:ck n b.ts=b.ts[i]:=by simp [ck,hfi,hi]
 have hli:(i:Int) < (b.ts.length:Int):=by omega
 have hoff:Nl n b.ts=b.ts.set i { b.ts[i] with off:=true }:=by simp [Nl,hta,hfi]
 simp only [dI];rw [e];rw [hta] at c3 c4 |-;rw [hoff];clear e c1 c2 hta hoff;obtain ⟨t,ht⟩:=aL (b.ts[i]);rw [<- ht] at hm c3 c4 |-;simp only [aI.cells] at hm c3;simp only [go_sem,seval,d2,hfi,hm,aG];rw [hfi] at d2;simp only [go_sem,seval,d2,hfi,hm,aG];(with_reducible and_intros)<;>first|exact .dq|omega|skip
 refine aa.pure c3 ?_;simp only [go_sem,seval];(with_reducible and_intros)<;>first|exact .dq|omega|skip
 refine aa.gen [] [] false (by simp) ?_;simp only [go_sem,seval];refine aY.intro c4 ?_
 by_cases b5:jh b (fS t true)=0
 ·have hB:=(ke b5).2;rw [hB,b5];simp only [go_sem,seval,hm,aG];(with_reducible and_intros)<;>first|exact .dq|omega|skip
  all_goals simp [List.map_set]
 ·have hB:=Mr b5;have d5:(jh b (fS t true)==0)=false:=by simpa using b5
  rw [hB,if_neg b5];simp only [go_sem,seval,bne,d5,aG];(with_reducible and_intros)<;>first|exact .dq|omega|skip
  all_goals simp
theorem sJ (b:aF) (n:Int) (hb:b.small) (hr:∀ p∈b.qs,p.cE):Abs.Spec Tryz.prog 132 [] [.agg b.cells,.int .i64 n] [] (.bI [.agg (dI b n).cells,.int .i64 (eg b n)]):=by
 refine Spec.frozen (D9 b n hb hr) [0,1] rfl ?_;intro r;rcases r with _ | _ | r<;>rfl
theorem DE (b:aF) (n:Int) (hb:b.small):(dI b n).small:=by
 unfold dI;split
 ·refine ⟨by simpa [Nl] using hb.1,?_⟩;have:=AF b (fS (ck n b.ts) true) 16
  show (vO b (fS (ck n b.ts) true) 16).length < _
  omega
 ·exact ⟨by simp,by simp⟩
theorem SL {b:aF} {g:List aA} {w n:Int} (hw:eW w) (hn:eW n) (h:CL b g w n=true):∀ p∈DS b g w n,p.cE:=by
 intro p hp;unfold DS at hp;split at hp
 ·cases hp
 ·obtain rfl:=List.mem_singleton.1 hp;simp only [CL,bZ] at h;exact ⟨hw,hn,nR h.1,nR h.2.1⟩
theorem wK {b:aF} {g:List aA} {p:aA}:∀ {i:Nat},p∈vO b g i->∃ k m:Nat,k < i/\m < 8/\p∈DS b g ((k:Int)+1) ((m:Int)+1):=by
 intro i hp;obtain ⟨k,hk,hp⟩:=List.mem_flatMap.1 hp;obtain ⟨m,hm,hp⟩:=List.mem_flatMap.1 hp;exact ⟨k,m,List.mem_range.1 hk,List.mem_range.1 hm,hp⟩
theorem CD {b:aF} {g:List aA} (h:yT b g=true) {k m:Nat} (hk:k < 16) (hm:m < 8):CL b g ((k:Int)+1) ((m:Int)+1)=true:=by
 have:=List.all_eq_true.1 h k (List.mem_range.2 hk);exact List.all_eq_true.1 this m (List.mem_range.2 hm)
theorem tK {b:aF} {g:List aA} (h:jh b g=0):g.all qm=true/\Fq g=true/\yT b g=true:=by
 unfold jh at h;split at h
 ·split at h
  ·split at h
   ·split at h
    ·exact ⟨by assumption,by assumption,by assumption⟩
    ·cases h
   ·cases h
  ·cases h
 ·cases h
theorem Md {b:aF} {g:List aA} (h:jh b g=0):∀ p∈vO b g 16,p.cE:=by
 intro p hp;obtain ⟨k,m,hk,hm,hp⟩:=wK hp;exact SL ⟨by omega,by omega⟩ ⟨by omega,by omega⟩ (CD (tK h).2.2 hk hm) p hp
theorem nG {b:aF} {n:Int} (h:eg b n=0):b.okB=true /\ ¬ gn n b.ts < 0/\jh b (fS (ck n b.ts) true)=0:=by
 unfold eg at h;split at h
 ·split at h
  ·cases h
  ·exact ⟨by assumption,by assumption,h⟩
 ·cases h
theorem Jc {b:aF} {n:Int}:∀ p∈(dI b n).qs,p.cE:=by
 unfold dI;split
 ·rename_i h;exact Md (nG h).2.2
 ·intro p hp;cases hp
def qG (b:aF) (n q p:Int):Int:=if eg b n=0 then fJ (dI b n) { ck n b.ts with aV:=q,aR:=p } else eg b n
def om (b:aF) (n q p:Int):aF:=if eg b n=0 then gL (dI b n) { ck n b.ts with aV:=q,aR:=p } else ⟨0,[],[]⟩
def Bn (b:aF) (n q p:Int):Int:=if eg b n=0 then pQ (dI b n) { ck n b.ts with aV:=q,aR:=p } else 0
theorem zP (b:aF) (n q p:Int) (hb:b.small) (hr:∀ p∈b.qs,p.cE):Abs.Spec Tryz.prog 133 [] [.agg b.cells,.int .i64 n,.int .i64 q,.int .i64 p] [] (.bI [.agg (om b n q p).cells,.int .i64 (Bn b n q p),.int .i64 (qG b n q p)]):=by
 have c1:=sJ b n hb hr;have c2:=qL b n hb;have c3:=uP (dI b n) { ck n b.ts with aV:=q,aR:=p } (DE b n hb) Jc;have hlt:=hb.1;simp only [qG,om,Bn];obtain ⟨B,hB⟩:=aL (dI b n);obtain ⟨T,hT⟩:=aL (ck n b.ts);rw [<- hB,<- hT] at c3;rw [<- hB] at c1;rw [<- hB,<- hT];simp only [aF.cells,aI.cells] at c1 c2 c3 |-;refine bg 41 4 [.cell 8 33,.tmp 9,.tmp 10] mixed Tryz.func133 ?_;simp only [go_sem,seval];(with_reducible and_intros)<;>first|exact .dq|omega|skip
 refine aa.pure c1 ?_
 by_cases b1:eg b n=0
 case neg =>
  have d:(eg b n==0)=false:=by simpa using b1
  rw [if_neg b1,if_neg b1,if_neg b1];simp only [go_sem,seval,bne,d]
  all_goals simp
 obtain ⟨i,hi,hfi,hon⟩:=tg (nG b1).2.1;have hm:=aD (c:=aI.cells) b.ts hi;have hta:T=b.ts[i]:=by rw [hT];simp [ck,hfi,hi]
 have hli:(i:Int) < (b.ts.length:Int):=by omega
 rw [<- hta] at hm;rw [hfi] at c2;simp only [aI.cells] at hm;rw [b1];simp only [go_sem,seval];(with_reducible and_intros)<;>first|exact .dq|omega|skip
 refine aa.pure c2 ?_;simp only [go_sem,seval,hm,aG];(with_reducible and_intros)<;>first|exact .dq|omega|skip
 refine aa.pure c3 ?_;simp only [go_sem,seval]
def dU (x:aq):Int:=if x.set==0 then x.aR else x.set
def n5 (x:aq):Bool:=!(x.set==0&&x.aR==0)
def Bm (r:au) (p:aA):Int:=
 if bf r p.inst then (if !n5 (aT r p.inst)&&!(p.aV==0) then 20 else if bP (gI p (aT r p.inst).mult (dU (aT r p.inst)))&&bP (p.aV*dU (aT r p.inst)) then 0 else 1) else 10
def nS (r:au):List aA->Int
 | []=>0
 | p :: t=>if Bm r p=0 then nS r t else Bm r p
def vU (r:au) (p:aA):aN:=⟨p.who,(aT r p.inst).cur,gI p (aT r p.inst).mult (dU (aT r p.inst))⟩
def mQ (r:au) (p:aA):List aA:=if p.aV==0&&p.aV*dU (aT r p.inst)==0 then [] else [⟨p.who,p.inst,p.aV,p.aV*dU (aT r p.inst)⟩]
def uu (r:au) (b:aF):Int:=if r.okB&&b.okB then nS r b.qs else 14
def vi (r:au) (b:aF):aF:=if uu r b=0 then ⟨b.next,b.ts,b.qs.flatMap (mQ r)⟩ else ⟨0,[],[]⟩
def oX (r:au) (b:aF):List aN:=if uu r b=0 then b.qs.map (vU r) else []
theorem mM (b:aF) (h:b.small):Abs.Spec Tryz.prog 11 [] [.agg b.cells] [] (.agg b.cells):=by
 refine Spec.frozen (o7 b h) [0,1] rfl ?_;intro r;rcases r with _ | _ | r<;>rfl
theorem JQ {x:aq} (h:x.ok=true):0<=dU x/\dU x<=1073741824:=by
 simp only [aq.ok,within,bZ,decide_eq_true_eq] at h;unfold dU;split<;>omega
theorem Ba {b:aF} (h:b.okB=true):∀ p∈b.qs,p.okB=true:=by
 intro p hp;simp only [aF.okB,bZ] at h;obtain ⟨i,hi,rfl⟩:=List.mem_iff_getElem.1 hp;exact FW h.1 hi
theorem Bb {p:aA} (h:p.okB=true):-1099511627776<=p.aV/\p.aV<=1099511627776/\bP p.cost=true:=by
 simp only [aA.okB,within,bZ,decide_eq_true_eq] at h;exact ⟨h.2.1.1,h.2.1.2,h.2.2.1⟩
theorem LS (r:au) (b:aF) (h:r.jk) (hb:b.small) (hr:∀ p∈b.qs,p.cE):Abs.Spec Tryz.prog 135 [] [.agg r.cells,.agg b.cells] [.own 4 ((vi r b).qs.map aA.cells),.own 3 ((oX r b).map aN.cells)] (.bI [.agg [.int .i64 (vi r b).next,.sl 7 ((vi r b).ts.map aI.cells),.ref 0],.ref 1,.int .i64 (uu r b)]):=by
 have c1:=dK r h.small;have c2:=gR b hb hr;have c3:=fun n=>dc r n h.small
 have c4:=mM b hb;have hql:=hb.2;simp only [au.cells,aF.cells] at c1 c2 c3 c4 |-;refine bg 117 2 [.cell 4 33,.tmp 5,.tmp 6] mixed Tryz.func135 ?_;simp only [go_sem,seval];(with_reducible and_intros)<;>first|exact .dq|omega|skip
 refine aa.pure c1 ?_;cases b1:r.okB
 ·have e:uu r b=14:=by simp [uu,b1]
  simp only [go_sem,seval,vi,oX,e]
  all_goals simp
 simp only [go_sem,seval];(with_reducible and_intros)<;>first|exact .dq|omega|skip
 refine aa.pure c2 ?_;cases b2:b.okB
 ·have e:uu r b=14:=by simp [uu,b1,b2]
  simp only [go_sem,seval,vi,oX,e]
  all_goals simp
 have e:uu r b=nS r b.qs:=by simp [uu,b1,b2]
 have hpos:=Ba b2;simp only [vi,oX];rw [e];clear e c1 c2;simp only [go_sem,seval];(with_reducible and_intros)<;>first|exact .dq|omega|skip
 refine aa.pure c4 ?_;clear c4;simp only [go_sem,seval];(with_reducible and_intros)<;>first|exact .dq|omega|skip
 refine aC.walk (S:=Unit) b.qs.length [2,3,4,7] [48,64,80] (fun i _=>[(9,.int .i64 i),(8,.ref 1552)]) (fun i _=>[(128,.box [.int .i64 b.next,.sl 7 (b.ts.map aI.cells),.ref 1824]),(1552,.own 3 (((b.qs.take i).map (vU r)).map aN.cells)),(1824,.own 4 (((b.qs.take i).flatMap (mQ r)).map aA.cells))]) (fun i _=>nS r (b.qs.drop i)=nS r b.qs) () rfl ?_ ?_ ?_
 ·simp only [go_sem,seval]<;>simp
 ·intro i _ hi hdi hwi hI;have hm:=aD (c:=aA.cells) b.qs hi;have hli:(i:Int) < (b.qs.length:Int):=by omega
  have hlt:(b.qs.take i).length=i:=by simp;omega
  have hq:=gl (mQ r) hi
  have hql:((b.qs.take i).flatMap (mQ r)).length<=i:=by
   have:=fm (f:=mQ r) (m:=1) (fun p=>by unfold mQ;split<;>simp) (b.qs.take i);omega
  have hD:(b.qs.take (i+1)).map (vU r)=(b.qs.take i).map (vU r)++[vU r b.qs[i]]:=by rw [List.take_succ_eq_append_getElem hi,List.map_append];rfl
  obtain ⟨n1,n2,n3⟩:=Bb (hpos b.qs[i] (List.getElem_mem hi));obtain ⟨p,hp⟩:=aL (b.qs[i]);obtain ⟨Q,hQ⟩:=aL ((b.qs.take i).flatMap (mQ r));obtain ⟨L,hL⟩:=aL ((b.qs.take i).map (vU r));have hLl:L.length=i:=by rw [hL];simp;omega
  have c3k:=c3 p.inst;have hxok:=fun hh=>ue (r:=r) (n:=p.inst) b1 hh
  obtain ⟨x,hx⟩:=aL (aT r p.inst);rw [dy hi,<- hp] at hI;simp only [nS,Bm,<- hx] at hI;rw [<- hp,<- hQ] at hq;rw [<- hp,<- hL] at hD;rw [<- hQ] at hql;simp only [mQ,<- hx] at hq;simp only [vU,<- hx] at hD;rw [<- hp] at hm n1 n2 n3;rw [<- hx] at c3k hxok;rw [<- hQ,<- hL];simp only [aA.cells] at hm;simp only [aq.cells] at c3k;clear c3 hQ hL hp hpos;simp only [go_sem,seval,aG,hdi,hm];(with_reducible and_intros)<;>first|exact .dq|omega|skip
  refine aa.pure c3k ?_;cases q1:bf r p.inst
  ·simp only [q1,fY,if_false] at hI;have hE:nS r b.qs=10:=hI.symm;simp only [go_sem,seval,q1,hE]
   all_goals simp
  simp only [q1,if_true] at hI;have hxok:=hxok q1;have hpr:=JQ hxok;have hmu:=(oa hxok).1;have c5:=uQ x;have c6:=uJ p x.mult (dU x) ⟨by omega,by omega⟩ n3 (by omega) hpr;have c7:=yK p.aV (dU x) ⟨by omega,by omega⟩ ⟨by omega,by omega⟩;have ep:(if x.set==0 then x.aR else x.set)=dU x:=rfl;have eh:(!(x.set==0&&x.aR==0))=n5 x:=rfl;rw [ep,eh] at c5;obtain ⟨W,hW⟩:=aL (gI p x.mult (dU x));obtain ⟨C,hC⟩:=aL (p.aV*dU x);rw [<- hW] at c6;rw [<- hC] at c7;rw [<- hW,<- hC] at hI;rw [<- hC] at hq;rw [<- hW] at hD;simp only [aq.cells] at c5;simp only [aA.cells] at c6;clear ep eh hW hC;simp only [go_sem,seval,q1];(with_reducible and_intros)<;>first|exact .dq|omega|skip
  refine aa.pure c5 ?_;cases q2:n5 x
  case false =>
   cases q3:p.aV==0
   ·simp only [q2,q3,Bool.not_false,Bool.and_self,if_true] at hI;have hE:nS r b.qs=20:=hI.symm;simp only [go_sem,seval,q2,bne,q3,hE]
    all_goals simp
   simp only [q2,q3,Bool.not_true,Bool.and_false,fY,if_false] at hI;simp only [go_sem,seval,q2,bne,q3];(with_reducible and_intros)<;>first|exact .dq|omega|skip
   refine aa.pure c6 ?_;simp only [go_sem,seval];(with_reducible and_intros)<;>first|exact .dq|omega|skip
   refine aa.pure c7 ?_;cases q4:bP W
   ·simp only [q4,Bool.false_and,fY,if_false] at hI;have hE:nS r b.qs=1:=hI.symm;simp only [go_sem,seval,q4,hE]
    all_goals simp
   cases q5:bP C
   ·simp only [q4,q5,Bool.and_false,fY,if_false] at hI;have hE:nS r b.qs=1:=hI.symm;simp only [go_sem,seval,q4,q5,hE]
    all_goals simp
   simp only [q4,q5,Bool.and_self,if_true] at hI;cases q6:C==0
   ·simp only [q3,q6,Bool.and_false,fY,if_false] at hq;simp only [go_sem,seval,q4,q5,bne,q3,q6,hwi,aG];(with_reducible and_intros)<;>first|exact .dq|omega|skip
    refine ah.step () hi hI ?_;simp only [go_sem,seval,hq,hD]<;>simp
   ·simp only [q3,q6,Bool.and_self,if_true,List.append_nil] at hq;simp only [go_sem,seval,q4,q5,bne,q3,q6,hwi,aG];(with_reducible and_intros)<;>first|exact .dq|omega|skip
    refine ah.step () hi hI ?_;simp only [go_sem,seval,hq,hD]<;>simp
  simp only [q2,Bool.not_true,Bool.false_and,fY,if_false] at hI;simp only [go_sem,seval,q2];(with_reducible and_intros)<;>first|exact .dq|omega|skip
  refine aa.pure c6 ?_;simp only [go_sem,seval];(with_reducible and_intros)<;>first|exact .dq|omega|skip
  refine aa.pure c7 ?_;cases q4:bP W
  ·simp only [q4,Bool.false_and,fY,if_false] at hI;have hE:nS r b.qs=1:=hI.symm;simp only [go_sem,seval,q4,hE]
   all_goals simp
  cases q5:bP C
  ·simp only [q4,q5,Bool.and_false,fY,if_false] at hI;have hE:nS r b.qs=1:=hI.symm;simp only [go_sem,seval,q4,q5,hE]
   all_goals simp
  simp only [q4,q5,Bool.and_self,if_true] at hI
  cases q3:p.aV==0<;>cases q6:C==0<;>(
   simp only [q3,q6,Bool.and_self,Bool.and_false,Bool.false_and,fY,if_false,if_true,List.append_nil] at hq;simp only [go_sem,seval,q4,q5,bne,q3,q6,hwi,aG];(with_reducible and_intros)<;>first|exact .dq|omega|skip
   try refine ah.step () hi hI ?_
   try simp only [go_sem,seval,hq,hD])
  all_goals simp
 ·intro _ hdx hI;rw [List.drop_length] at hI;have hE:nS r b.qs=0:=hI.symm;simp only [go_sem,seval,aG,hdx,hE,List.take_length]
  all_goals simp
theorem J3 (r:au) (b:aF) (h:r.jk) (hb:b.small) (hr:∀ p∈b.qs,p.cE):Abs.Spec Tryz.prog 135 [] [.agg r.cells,.agg b.cells] [] (.bI [.agg (vi r b).cells,.sl 3 ((oX r b).map aN.cells),.int .i64 (uu r b)]):=by
 refine Spec.frozen (LS r b h hb hr) [0,1] rfl ?_;intro r;rcases r with _ | _ | r<;>rfl
def lJ (w c:Int) (x:aB):Bool:=x.who==w&&x.cur==c
def cQ (w c:Int):List aB->Int
 | []=>-1
 | x :: r=>if lJ w c x then 0 else if cQ w c r < 0 then -1 else cQ w c r+1
theorem zk {w c:Int}:∀ {xs:List aB} {i:Nat} (h:i < xs.length),(∀ j (hj:j < xs.length),j < i->lJ w c xs[j]=false)->lJ w c xs[i]=true->cQ w c xs=i
 | [],i,h,_,_=>by simp at h
 | x :: r,0,h,_,he=>by
  have he:lJ w c x=true:=he;simp [cQ,he]
 | x :: r,i+1,h,hn,he=>by
  have h0:lJ w c x=false:=hn 0 (by simp) (by omega);have h2:=zk (xs:=r) (i:=i) (by simpa using h) (fun j hj hji=>hn (j+1) (by simpa using hj) (by omega)) he;simp only [cQ,h0,h2];rw [if_neg (by simp),if_neg (by omega)];omega
theorem vT {w c:Int}:∀ {xs:List aB},(∀ j (hj:j < xs.length),lJ w c xs[j]=false)->cQ w c xs = -1
 | [],_=>rfl
 | x :: r,hn=>by
  have h0:lJ w c x=false:=hn 0 (by simp);have h2:=vT (xs:=r) (fun j hj=>hn (j+1) (by simpa using hj));simp [cQ,h0,h2]
theorem nQ {w c:Int}:∀ {xs:List aB},¬ cQ w c xs < 0->∃ (i:Nat) (h:i < xs.length),cQ w c xs=i/\lJ w c xs[i]=true
 | [],h=>by simp [cQ] at h
 | t :: r,h=>by
  simp only [cQ] at h |-;split at h
  ·rename_i h1;exact ⟨0,by simp,by rw [if_pos h1];rfl,h1⟩
  ·rename_i h1;split at h
   ·omega
   ·rename_i h2;obtain ⟨i,hi,e,ho⟩:=nQ (xs:=r) h2;refine ⟨i+1,by simp;omega,?_,by simpa using ho⟩;rw [if_neg h1,if_neg h2,e];rfl
def lC (w c:Int) (xs:List aB):aB:=xs.getD (cQ w c xs).toNat ⟨0,0,0,0⟩
theorem kV (w c:Int) (xs:List aB) (hl:xs.length < 2 ^ 40):Abs.Spec Tryz.prog 166 [] [.int .i64 w,.int .i64 c,.sl 4 (xs.map aB.cells)] [] (.int .i64 (cQ w c xs)):=by
 refine bg 33 3 [.tmp 6] mixed Tryz.func166 ?_;simp only [go_sem,seval,aG];refine aC.walk (S:=Unit) xs.length [0,1,2] [] (fun i _=>[(7,.int .i64 i)]) (fun _ _=>[]) (fun i _=>∀ j (hj:j < xs.length),j < i->lJ w c xs[j]=false) () (by intros;omega) ?_ ?_ ?_
 ·simp only [go_sem,seval]<;>simp
 ·intro i _ hi hdi hwi hI;have hm:=aD (c:=aB.cells) xs hi;have hli:(i:Int) < (xs.length:Int):=by omega
  have hhit:=zk hi hI
  have hnext:lJ w c xs[i]=false->∀ j (hj:j < xs.length),j < i+1->lJ w c xs[j]=false:=fun h0 j hj hji=>by
   rcases Nat.lt_or_ge j i with h | h
   ·exact hI j hj h
   ·obtain rfl:j=i:=by omega
    exact h0
  obtain ⟨x,hx⟩:=aL (xs[i]);rw [<- hx] at hm hhit hnext;simp only [lJ] at hhit hnext;simp only [aB.cells] at hm;cases q1:x.who==w
  ·simp only [go_sem,seval,aG,hdi,hm,q1,hwi];(with_reducible and_intros)<;>first|exact .dq|omega|skip
   refine ah.step () hi (hnext (by simp [q1])) ?_;simp only [go_sem,seval]
  cases q2:x.cur==c
  ·simp only [go_sem,seval,aG,hdi,hm,q1,q2,hwi];(with_reducible and_intros)<;>first|exact .dq|omega|skip
   refine ah.step () hi (hnext (by simp [q2])) ?_;simp only [go_sem,seval]
  simp only [go_sem,seval,aG,hdi,hm,q1,q2,hhit (by simp [q1,q2])];(with_reducible and_intros)<;>first|exact .dq|omega|skip
 ·intro _ hdx hI;simp only [go_sem,seval,aG,hdx,vT (fun j hj=>hI j hj hj)]
def G2 (xs:List aB) (x:aB) (w c:Int):List aB:=if x.who==w&&x.cur==c then (if 0 < x.bW then [x] else []) else if cQ w c xs < 0 then [] else [lC w c xs]
def xK (xs:List aB) (x:aB) (w:Int) (i:Nat):List aB:=oq (fun k=>G2 xs x w k) i
def xM (xs:List aB) (x:aB) (i:Nat):List aB:=oq (fun k=>xK xs x ((k:Int)+1) 3) i
theorem I3 (xs:List aB) (x:aB) (w c:Int):(G2 xs x w c).length<=1:=by
 unfold G2;split
 ·split<;>simp
 ·split<;>simp
theorem Kb (xs:List aB) (x:aB) (w:Int) (i:Nat):(xK xs x w i).length<=i:=by
 have:=kE (f:=fun k=>G2 xs x w (k:Nat)) (m:=1) (fun k=>I3 _ _ _ _) i;simpa [xK] using this
theorem Jx (xs:List aB) (x:aB) (i:Nat):(xM xs x i).length<=3*i:=kE (fun k=>Kb _ _ _ _) i
theorem Lj (xs:List aB) (x:aB) (hl:xs.length < 2 ^ 30):Abs.Spec Tryz.prog 167 [] [.sl 4 (xs.map aB.cells),.agg x.cells] [.own 4 ((xM xs x 16).map aB.cells)] (.ref 0):=by
 have c1:=fun w c=>kV w c xs (by omega)
 refine bg 51 2 [.tmp 4] mixed Tryz.func167 ?_;simp only [aB.cells];simp only [go_sem,seval];refine aC.walk (S:=Unit) 16 [0,3] [64] (fun i _=>[(6,.int .i64 ((i:Int)+1)),(5,.ref 592)]) (fun i _=>[(592,.own 4 ((xM xs x i).map aB.cells))]) (fun _ _=>True) () trivial ?_ ?_ ?_
 ·simp only [go_sem,seval,xM,kg]<;>simp
 ·intro i _ hi _ _ _;obtain ⟨w,hw⟩:=aL ((i:Int)+1);have hd:decide (w<=16)=true:=decide_eq_true (by omega);have hww:IntKind.wrap .i64 (w+1)=((i+1:Nat):Int)+1:=by rw [bz (by omega) (by omega)];omega
  have hnx:xM xs x (i+1)=xM xs x i++xK xs x w 3:=by rw [hw];exact iI _ i
  have hwl:=Jx xs x i;obtain ⟨W,hW⟩:=aL (xM xs x i);rw [<- hW] at hnx hwl |-;rw [<- hw];simp only [go_sem,seval,hd];refine aC.walk (S:=Unit) 3 [0,3,6] [64] (fun j _=>[(7,.int .i64 j),(5,.ref 592)]) (fun j _=>[(592,.own 4 ((W++xK xs x w j).map aB.cells))]) (fun _ _=>True) () trivial ?_ ?_ ?_
  ·simp only [go_sem,seval,xK,kg]<;>simp
  ·intro c _ hc hdc hwc _;have hdc:decide ((c:Int) < 3)=true:=hdc;have hnc:xK xs x w (c+1)=xK xs x w c++G2 xs x w c:=iI _ c;have hlc:=Kb xs x w c;obtain ⟨V,hV⟩:=aL (W++xK xs x w c);have hVl:V.length<=100:=by rw [hV,List.length_append];omega
   have hnV:W++xK xs x w (c+1)=V++G2 xs x w c:=by rw [hnc,hV,List.append_assoc]
   have c1:=c1 w c;rw [<- hV];clear hV hnc hW hnx;simp only [G2] at hnV
   have rest:(x.who==w&&x.cur==(c:Int))=false->∀ {Q:Prop},(cQ w c xs < 0->W++xK xs x w (c+1)=V->Q)->(∀ (k:Nat) (hk:k < xs.length),cQ w c xs=k->W++xK xs x w (c+1)=V++[xs[k]]->Q)->Q:=fun h0 Q f1 f2=>by
    by_cases h:cQ w c xs < 0
    ·rw [h0,if_neg (by simp),if_pos h,List.append_nil] at hnV;exact f1 h hnV
    ·obtain ⟨k,hk,hk2,_⟩:=nQ h;rw [h0,if_neg (by simp),if_neg h] at hnV;exact f2 k hk hk2 (by rw [hnV,lC,hk2];simp [hk])
   have hsw:(w==x.who)=(x.who==w):=by rw [Bool.eq_iff_iff];simp only [beq_iff_eq];exact eq_comm
   cases q1:x.who==w
   ·refine rest (by simp [q1]) (fun h hn=>?_) (fun k hk h hn=>?_)
    ·have d:decide (0<=cQ w c xs)=false:=decide_eq_false (by omega);simp only [go_sem,seval,hdc,hsw,q1];(with_reducible and_intros)<;>first|exact .dq|omega|skip
     refine aa.pure c1 ?_;simp only [go_sem,seval,d,hwc];refine ah.step () hc trivial ?_;simp only [go_sem,seval,hn]
    ·have hm:=aD (c:=aB.cells) xs hk;have hlk:(k:Int) < (xs.length:Int):=by omega
     simp only [aB.cells] at hm;rw [h] at c1;simp only [go_sem,seval,hdc,hsw,q1];(with_reducible and_intros)<;>first|exact .dq|omega|skip
     refine aa.pure c1 ?_;simp only [go_sem,seval,hwc,hm,aG];(with_reducible and_intros)<;>first|exact .dq|omega|skip
     refine ah.step () hc trivial ?_;simp only [go_sem,seval,hn]<;>simp
   cases q2:x.cur==(c:Int)
   ·have q3:((c:Int)==x.cur)=false:=by rw [<- q2,Bool.eq_iff_iff];simp;omega
    refine rest (by simp [q2]) (fun h hn=>?_) (fun k hk h hn=>?_)
    ·have d:decide (0<=cQ w c xs)=false:=decide_eq_false (by omega);simp only [go_sem,seval,hdc,hsw,q1,q2,q3];(with_reducible and_intros)<;>first|exact .dq|omega|skip
     refine aa.pure c1 ?_;simp only [go_sem,seval,d,hwc];refine ah.step () hc trivial ?_;simp only [go_sem,seval,hn]
    ·have hm:=aD (c:=aB.cells) xs hk;have hlk:(k:Int) < (xs.length:Int):=by omega
     simp only [aB.cells] at hm;rw [h] at c1;simp only [go_sem,seval,hdc,hsw,q1,q2,q3];(with_reducible and_intros)<;>first|exact .dq|omega|skip
     refine aa.pure c1 ?_;simp only [go_sem,seval,hwc,hm,aG];(with_reducible and_intros)<;>first|exact .dq|omega|skip
     refine ah.step () hc trivial ?_;simp only [go_sem,seval,hn]<;>simp
   have q3:((c:Int)==x.cur)=true:=by rw [<- q2,Bool.eq_iff_iff];simp;omega
   have q4:(w==x.who)=true:=by rw [<- q1,Bool.eq_iff_iff];simp;omega
   by_cases q5:0 < x.bW
   ·have d:decide (0 < x.bW)=true:=decide_eq_true q5;simp only [q1,q2,Bool.and_self,if_true,if_pos q5] at hnV;simp only [go_sem,seval,hdc,q1,q2,q3,q4,d,hwc,aG];(with_reducible and_intros)<;>first|exact .dq|omega|skip
    refine ah.step () hc trivial ?_;simp only [go_sem,seval,hnV]<;>simp
   ·have d:decide (0 < x.bW)=false:=decide_eq_false q5;simp only [q1,q2,Bool.and_self,if_true,if_neg q5,List.append_nil] at hnV;simp only [go_sem,seval,hdc,q1,q2,q3,q4,d,hwc];refine ah.step () hc trivial ?_;simp only [go_sem,seval,hnV]
  ·intro _ hdc _;have hdc:decide ((3:Int) < 3)=false:=hdc;simp only [go_sem,seval,hdc,hww];refine ah.step () hi trivial ?_;simp only [go_sem,seval,hnx]
 ·intro _ _ _;simp only [go_sem,seval]
theorem zg (xs:List aB) (x:aB) (hl:xs.length < 2 ^ 30):Abs.Spec Tryz.prog 167 [] [.sl 4 (xs.map aB.cells),.agg x.cells] [] (.sl 4 ((xM xs x 16).map aB.cells)):=by
 refine Spec.frozen (Lj xs x hl) [0] rfl ?_;intro r;rcases r with _ | r<;>rfl
def vY (d:aN):Bool:=(within d.who 1 16&&within d.cur 0 2)&&within d.bW 0 4611686018427387904
theorem p9 (d:aN):Abs.Spec Tryz.prog 165 [] [.agg d.cells] [] (.bool (vY d)):=by
 have c1:=fE d.who;have c2:=fB d.cur;have c3:=eM d.bW 0 4611686018427387904;simp only [aN.cells,vY];refine bg 16 1 [.tmp 2] mixed Tryz.func165 ?_;simp only [go_sem,seval];(with_reducible and_intros)<;>first|exact .dq|omega|skip
 refine aa.pure c1 ?_;cases q1:within d.who 1 16
 ·simp only [go_sem,seval,Bool.false_and]
 simp only [go_sem,seval];(with_reducible and_intros)<;>first|exact .dq|omega|skip
 refine aa.pure c2 ?_;cases q2:within d.cur 0 2
 ·simp only [go_sem,seval,Bool.false_and,Bool.and_false]
 simp only [go_sem,seval];(with_reducible and_intros)<;>first|exact .dq|omega|skip
 refine aa.pure c3 ?_;simp only [go_sem,seval,Bool.true_and]
def Dy (xs:List aB) (d:aN) (at_:Int):Int:=if lZ bS bM xs then (if vY d&&within at_ 0 1099511627776 then 0 else 3) else 14
def zO (xs:List aB) (d:aN) (at_:Int):List aB:=if Dy xs d at_=0 then xM xs ⟨d.who,d.cur,d.bW,if cQ d.who d.cur xs < 0 then at_ else (lC d.who d.cur xs).till⟩ 16 else []
theorem IG (xs:List aB) (d:aN) (at_:Int) (hl:xs.length < 2 ^ 30):Abs.Spec Tryz.prog 141 [] [.sl 4 (xs.map aB.cells),.agg d.cells,.int .i64 at_] [] (.bI [.sl 4 ((zO xs d at_).map aB.cells),.int .i64 (Dy xs d at_)]):=by
 have c1:=pT xs hl;have c2:=p9 d;have c3:=eM at_ 0 1099511627776;have c4:=kV d.who d.cur xs (by omega);have c5:=fun x=>zg xs x hl
 simp only [aN.cells,aB.cells] at c2 c5 |-;refine bg 38 3 [.tmp 6,.tmp 7] mixed Tryz.func141 ?_;simp only [go_sem,seval];(with_reducible and_intros)<;>first|exact .dq|omega|skip
 refine aa.pure c1 ?_;cases b1:lZ bS bM xs
 ·have e:Dy xs d at_=14:=by simp [Dy,b1]
  simp only [go_sem,seval,zO,e]<;>simp
 simp only [go_sem,seval];(with_reducible and_intros)<;>first|exact .dq|omega|skip
 refine aa.pure c2 ?_;cases b2:vY d
 ·have e:Dy xs d at_=3:=by simp [Dy,b1,b2]
  simp only [go_sem,seval,zO,e]<;>simp
 simp only [go_sem,seval];(with_reducible and_intros)<;>first|exact .dq|omega|skip
 refine aa.pure c3 ?_;cases b3:within at_ 0 1099511627776
 ·have e:Dy xs d at_=3:=by simp [Dy,b1,b2,b3]
  simp only [go_sem,seval,zO,e]<;>simp
 have e:Dy xs d at_=0:=by simp [Dy,b1,b2,b3]
 simp only [zO,e];simp only [go_sem,seval];(with_reducible and_intros)<;>first|exact .dq|omega|skip
 refine aa.pure c4 ?_
 by_cases h:cQ d.who d.cur xs < 0
 ·have dd:decide (0<=cQ d.who d.cur xs)=false:=decide_eq_false (by omega);have c5:=c5 ⟨d.who,d.cur,d.bW,at_⟩;rw [if_pos h];simp only [go_sem,seval,dd];(with_reducible and_intros)<;>first|exact .dq|omega|skip
  refine aa.pure c5 ?_;simp only [go_sem,seval]
 ·obtain ⟨k,hk,hk2,_⟩:=nQ h;have hm:=aD (c:=aB.cells) xs hk;have hlk:(k:Int) < (xs.length:Int):=by omega
  have hc:lC d.who d.cur xs=xs[k]:=by rw [lC,hk2];simp [hk]
  have c5:=c5 ⟨d.who,d.cur,d.bW,xs[k].till⟩;simp only [aB.cells] at hm;rw [if_neg h,hc];simp only [go_sem,seval,hk2,hm,aG];(with_reducible and_intros)<;>first|exact .dq|omega|skip
  refine aa.pure c5 ?_;simp only [go_sem,seval]
def qu (xs:List aB) (d:aN):Int:=if lZ bS bM xs then (if vY d then 0 else 3) else 14
def Kg (xs:List aB) (d:aN):aB:=if cQ d.who d.cur xs < 0 then ⟨d.who,d.cur,0,0⟩ else { lC d.who d.cur xs with bW:=max ((lC d.who d.cur xs).bW-d.bW) 0 }
def rI (xs:List aB) (d:aN):List aB:=if qu xs d=0 then xM xs (Kg xs d) 16 else []
theorem wP (xs:List aB) (d:aN) (hl:xs.length < 2 ^ 30):Abs.Spec Tryz.prog 121 [] [.sl 4 (xs.map aB.cells),.agg d.cells] [] (.bI [.sl 4 ((rI xs d).map aB.cells),.int .i64 (qu xs d)]):=by
 have c1:=pT xs hl;have c2:=p9 d;have c4:=kV d.who d.cur xs (by omega);have c5:=fun x=>zg xs x hl
 simp only [aN.cells,aB.cells] at c2 c5 |-;refine bg 46 2 [.tmp 4,.tmp 5] mixed Tryz.func121 ?_;simp only [go_sem,seval];(with_reducible and_intros)<;>first|exact .dq|omega|skip
 refine aa.pure c1 ?_;cases b1:lZ bS bM xs
 ·have e:qu xs d=14:=by simp [qu,b1]
  simp only [go_sem,seval,rI,e]<;>simp
 simp only [go_sem,seval];(with_reducible and_intros)<;>first|exact .dq|omega|skip
 refine aa.pure c2 ?_;cases b2:vY d
 ·have e:qu xs d=3:=by simp [qu,b1,b2]
  simp only [go_sem,seval,rI,e]<;>simp
 have e:qu xs d=0:=by simp [qu,b1,b2]
 simp only [rI,e];simp only [go_sem,seval];(with_reducible and_intros)<;>first|exact .dq|omega|skip
 refine aa.pure c4 ?_
 by_cases h:cQ d.who d.cur xs < 0
 ·have dd:decide (cQ d.who d.cur xs < 0)=true:=decide_eq_true h;have c5:=c5 ⟨d.who,d.cur,0,0⟩;simp only [Kg];rw [if_pos h];simp only [go_sem,seval,dd];(with_reducible and_intros)<;>first|exact .dq|omega|skip
  refine aa.pure c5 ?_;simp only [go_sem,seval]
 ·obtain ⟨k,hk,hk2,_⟩:=nQ h;have hm:=aD (c:=aB.cells) xs hk;have hlk:(k:Int) < (xs.length:Int):=by omega
  have hc:lC d.who d.cur xs=xs[k]:=by rw [lC,hk2];simp [hk]
  have hok:=FW b1 hk;simp only [bS,within,bZ,decide_eq_true_eq] at hok;simp only [vY,within,bZ,decide_eq_true_eq] at b2;simp only [Kg];rw [if_neg h,hc];obtain ⟨x,hx⟩:=aL (xs[k]);rw [<- hx] at hm hok |-;have hw:IntKind.wrap .i64 (x.bW-d.bW)=x.bW-d.bW:=bz (by omega) (by omega);have c5:=c5 { x with bW:=max (x.bW-d.bW) 0 };simp only [aB.cells] at hm c5;have dd:decide ((k:Int) < 0)=false:=decide_eq_false (by omega);simp only [go_sem,seval,hk2,dd,hm,aG,hw];(with_reducible and_intros)<;>first|exact .dq|omega|skip
  refine aa.pure c5 ?_;simp only [go_sem,seval]
def mN (n:Int) (xs:List aB):List aB:=xs.flatMap fun x=>if x.till<=n then [x] else []
def y8 (n:Int) (xs:List aB):List aB:=xs.flatMap fun x=>if x.till<=n then [] else [x]
theorem J7 (n:Int) (xs:List aB) (hl:xs.length < 2 ^ 30):Abs.Spec Tryz.prog 143 [] [.int .i64 n,.sl 4 (xs.map aB.cells)] [.own 4 ((mN n xs).map aB.cells),.own 4 ((y8 n xs).map aB.cells)] (.bI [.ref 0,.ref 1]):=by
 refine bg 38 2 [.tmp 4,.tmp 5] mixed Tryz.func143 ?_;simp only [go_sem,seval,aG];refine aC.walk (S:=Unit) xs.length [0,1] [] (fun i _=>[(8,.int .i64 i),(6,.ref 464),(7,.ref 576)]) (fun i _=>[(464,.own 4 ((mN n (xs.take i)).map aB.cells)),(576,.own 4 ((y8 n (xs.take i)).map aB.cells))]) (fun _ _=>True) () trivial ?_ ?_ ?_
 ·simp only [go_sem,seval]<;>simp [mN,y8]
 ·intro i _ hi hdi hwi _;have hm:=aD (c:=aB.cells) xs hi;have hli:(i:Int) < (xs.length:Int):=by omega
  have hlt:(xs.take i).length=i:=by simp;omega
  have hA:mN n (xs.take (i+1))=mN n (xs.take i)++_:=gl _ hi;have hB:y8 n (xs.take (i+1))=y8 n (xs.take i)++_:=gl _ hi;have hAl:(mN n (xs.take i)).length<=1*(xs.take i).length:=fm (fun x=>by split<;>simp) _;have hBl:(y8 n (xs.take i)).length<=1*(xs.take i).length:=fm (fun x=>by split<;>simp) _;obtain ⟨L,hL⟩:=aL (mN n (xs.take i));obtain ⟨M,hM⟩:=aL (y8 n (xs.take i));obtain ⟨x,hx⟩:=aL (xs[i]);rw [<- hL] at hA hAl;rw [<- hM] at hB hBl;rw [<- hx] at hA hB hm;rw [<- hL,<- hM];simp only [aB.cells] at hm
  by_cases q:x.till<=n
  ·have d:decide (x.till<=n)=true:=decide_eq_true q;rw [if_pos q] at hA hB;simp only [go_sem,seval,aG,hdi,hm,d,hwi];(with_reducible and_intros)<;>first|exact .dq|omega|skip
   refine ah.step () hi trivial ?_;simp only [go_sem,seval,hA,hB]<;>simp
  ·have d:decide (x.till<=n)=false:=decide_eq_false q;rw [if_neg q] at hA hB;simp only [go_sem,seval,aG,hdi,hm,d,hwi];(with_reducible and_intros)<;>first|exact .dq|omega|skip
   refine ah.step () hi trivial ?_;simp only [go_sem,seval,hA,hB]<;>simp
 ·intro _ hdx _;simp only [go_sem,seval,aG,hdx,List.take_length]
theorem F4 (n:Int) (xs:List aB) (hl:xs.length < 2 ^ 30):Abs.Spec Tryz.prog 143 [] [.int .i64 n,.sl 4 (xs.map aB.cells)] [] (.bI [.sl 4 ((mN n xs).map aB.cells),.sl 4 ((y8 n xs).map aB.cells)]):=by
 refine Spec.frozen (J7 n xs hl) [0,1] rfl ?_;intro r;rcases r with _ | _ | r<;>rfl
def ew (xs:List aB) (ws:List Int):List aB:=xs.flatMap fun x=>if pY ws x.who then [] else [x]
theorem sG (xs:List aB) (ws:List Int) (hl:xs.length < 2 ^ 30) (hs:ws.length < 2 ^ 30):Abs.Spec Tryz.prog 145 [] [.sl 4 (xs.map aB.cells),.sl 1 (ints ws)] [.own 4 ((ew xs ws).map aB.cells)] (.ref 0):=by
 refine bg 45 2 [.tmp 4] mixed Tryz.func145 ?_;simp only [go_sem,seval,aG];refine aC.walk (S:=Unit) xs.length [0,1] [] (fun i _=>[(6,.int .i64 i),(5,.ref 704)]) (fun i _=>[(704,.own 4 ((ew (xs.take i) ws).map aB.cells))]) (fun _ _=>True) () trivial ?_ ?_ ?_
 ·simp only [go_sem,seval]<;>simp [ew]
 ·intro i _ hi hdi hwi _;have hm:=aD (c:=aB.cells) xs hi;have hli:(i:Int) < (xs.length:Int):=by omega
  have hlt:(xs.take i).length=i:=by simp;omega
  have hA:ew (xs.take (i+1)) ws=ew (xs.take i) ws++_:=gl _ hi;have hAl:(ew (xs.take i) ws).length<=1*(xs.take i).length:=fm (fun x=>by split<;>simp) _;obtain ⟨L,hL⟩:=aL (ew (xs.take i) ws);obtain ⟨x,hx⟩:=aL (xs[i]);rw [<- hL] at hA hAl |-;rw [<- hx] at hA hm;simp only [aB.cells] at hm;simp only [go_sem,seval,aG,hdi,ay];refine aC.walk (S:=Unit) ws.length [0,1,5,6] [704] (fun k _=>[(8,.int .i64 k),(7,.bool (pY (ws.take k) x.who))]) (fun _ _=>[]) (fun _ _=>True) () trivial ?_ ?_ ?_
  ·simp only [go_sem,seval]<;>simp [pY]
  ·intro k _ hk hdk hwk _;have hst:=w6 ws x.who hk;have hlk:(k:Int) < (ws.length:Int):=by omega
   cases hb:pY (ws.take k) x.who
   ·rw [hb,Bool.false_or] at hst;simp only [go_sem,seval,aG,ay,hdk,ints_at ws hk,hm,hwk];(with_reducible and_intros)<;>first|exact .dq|omega|skip
    refine ah.step () hk trivial ?_;simp only [go_sem,seval,hst]
   ·rw [hb,Bool.true_or] at hst;simp only [go_sem,seval,aG,ay,hdk,ints_at ws hk,hm,hwk];(with_reducible and_intros)<;>first|exact .dq|omega|skip
    refine ah.step () hk trivial ?_;simp only [go_sem,seval,hst]
  ·intro _ hdk _;cases b1:pY ws x.who
   ·simp only [b1,fY,if_false] at hA;simp only [go_sem,seval,ay,aG,hdk,List.take_length,b1,hm,hwi];(with_reducible and_intros)<;>first|exact .dq|omega|skip
    refine ah.step () hi trivial ?_;simp only [go_sem,seval,hA]<;>simp
   ·simp only [b1,if_true,List.append_nil] at hA;simp only [go_sem,seval,ay,aG,hdk,List.take_length,b1,hm,hwi];(with_reducible and_intros)<;>first|exact .dq|omega|skip
    refine ah.step () hi trivial ?_;simp only [go_sem,seval,hA]<;>simp
 ·intro _ hdx _;simp only [go_sem,seval,ay,aG,hdx,List.take_length]
theorem Af (xs:List aB) (ws:List Int) (hl:xs.length < 2 ^ 30) (hs:ws.length < 2 ^ 30):Abs.Spec Tryz.prog 145 [] [.sl 4 (xs.map aB.cells),.sl 1 (ints ws)] [] (.sl 4 ((ew xs ws).map aB.cells)):=by
 refine Spec.frozen (sG xs ws hl hs) [0] rfl ?_;intro r;rcases r with _ | r<;>rfl
def oY (l:List aN):Bool:=l.all fun d=>bP d.bW
theorem uU (l:List aN) (hl:l.length < 2 ^ 40):Abs.Spec Tryz.prog 191 [] [.sl 3 (l.map aN.cells)] [] (.bool (oY l)):=by
 refine bg 17 1 [.tmp 2] mixed Tryz.func191 ?_;simp only [go_sem,seval,aG];refine aC.walk (S:=Unit) l.length [0] [] (fun i _=>[(3,.int .i64 i)]) (fun _ _=>[]) (fun i _=>oY (l.drop i)=oY l) () rfl ?_ ?_ ?_
 ·simp only [go_sem,seval]<;>simp
 ·intro i _ hi hdi hwi hI;have hm:=aD (c:=aN.cells) l hi;obtain ⟨x,hx⟩:=aL (l[i]);have hN:=cZ x.bW;have hli:(i:Int) < (l.length:Int):=by omega
  rw [dy hi,<- hx] at hI;rw [<- hx] at hm;have hc:oY (x :: l.drop (i+1))=(bP x.bW&&oY (l.drop (i+1))):=rfl;rw [hc] at hI;simp only [aN.cells] at hm;simp only [go_sem,seval,aG,hdi,hm];(with_reducible and_intros)<;>first|exact .dq|omega|skip
  refine aa.pure hN ?_;cases b2:bP x.bW
  ·rw [b2,Bool.false_and] at hI;simp only [go_sem,seval,<- hI]
  rw [b2,Bool.true_and] at hI;simp only [go_sem,seval,hwi];refine ah.step () hi hI ?_;simp only [go_sem,seval]
 ·intro _ hdx hI;rw [List.drop_length] at hI;rw [<- hI];simp only [go_sem,seval,aG,hdx];rfl
def EO (w c:Int) (d:aN):Bool:=d.who==w&&d.cur==c
def uq (w c:Int) (l:List aN):List Int:=pick (EO w c) aN.bW l
def kP (w c:Int) (l:List aN):Int:=if oY l then (if bP (az (uq w c l)) then 0 else 1) else 3
def ji (w c:Int) (l:List aN):Int:=if kP w c l=0 then az (uq w c l) else 0
theorem uF (w c:Int) (l:List aN) (hl:l.length < 2 ^ 29):Abs.Spec Tryz.prog 147 [] [.int .i64 w,.int .i64 c,.sl 3 (l.map aN.cells)] [] (.bI [.int .i64 (ji w c l),.int .i64 (kP w c l)]):=by
 have hM:=uU l (by omega);refine bg 53 3 [.tmp 6,.tmp 7] mixed Tryz.func147 ?_;simp only [go_sem,seval];refine aa.pure hM ?_;cases b1:oY l
 ·have e:kP w c l=3:=by simp [kP,b1]
  simp only [go_sem,seval,ji,e]<;>simp
 have e:kP w c l=if bP (az (uq w c l)) then 0 else 1:=by simp [kP,b1]
 have hmm:∀ x∈l,bP x.bW=true:=fun x hx=>List.all_eq_true.1 b1 x hx
 have hA:=ct (uq w c l) (kM fun x hx=>nR (hmm x hx)) (by have:=bY (EO w c) aN.bW l;unfold uq;omega);simp only [ji];rw [e];clear e hM;simp only [go_sem,seval,aG];refine aC.walk (S:=Unit) l.length [0,1,2] [] (fun i _=>[(9,.int .i64 i),(8,.ref 720)]) (fun i _=>[(720,.own 1 (ints (uq w c (l.take i))))]) (fun _ _=>True) () trivial ?_ ?_ ?_
 ·simp only [go_sem,seval]<;>simp [uq,pick,ints]
 ·intro i _ hi hdi hwi _;have hm:=aD (c:=aN.cells) l hi;have hs:ints (uq w c (l.take (i+1)))=ints (uq w c (l.take i))++_:=fG (EO w c) aN.bW hi;have hlen:(uq w c (l.take i)).length<=(l.take i).length:=bY (EO w c) aN.bW (l.take i);have hlt:(l.take i).length=i:=by simp;omega
  have hli:(i:Int) < (l.length:Int):=by omega
  obtain ⟨x,hx⟩:=aL (l[i]);obtain ⟨L,hL⟩:=aL (uq w c (l.take i));rw [<- hL] at hs hlen |-;rw [<- hx] at hs hm;simp only [aN.cells] at hm;simp only [EO] at hs;cases q1:x.who==w
  ·simp only [q1,Bool.false_and,fY,if_false,List.append_nil] at hs;simp only [go_sem,seval,aG,hdi,hm,q1,hwi];(with_reducible and_intros)<;>first|exact .dq|omega|skip
   refine ah.step () hi trivial ?_;simp only [go_sem,seval,hs]
  cases q2:x.cur==c
  ·simp only [q1,q2,Bool.and_false,fY,if_false,List.append_nil] at hs;simp only [go_sem,seval,aG,hdi,hm,q1,q2,hwi];(with_reducible and_intros)<;>first|exact .dq|omega|skip
   refine ah.step () hi trivial ?_;simp only [go_sem,seval,hs]
  simp only [q1,q2,Bool.and_self,if_true] at hs;simp only [go_sem,seval,aG,hdi,hm,q1,q2,hwi,ay];(with_reducible and_intros)<;>first|exact .dq|omega|skip
  refine ah.step () hi trivial ?_;simp only [go_sem,seval,hs]
 ·intro _ hdx _;simp only [go_sem,seval,hdx,aG,List.take_length];refine aa.gen [] [] true (by simp) ?_;simp only [go_sem,seval];refine aY.intro hA ?_;cases b2:bP (az (uq w c l))
  ·simp only [go_sem,seval,b2,addN]<;>simp
  ·simp only [go_sem,seval,b2,addN]<;>simp
def jv (a b:aN):Bool:=decide (a.who < b.who)||(a.who==b.who&&decide (a.cur < b.cur))
theorem gC {a b:aN}:jv a b=true ↔ a.who < b.who\/(a.who=b.who/\a.cur < b.cur):=by simp [jv]
def aN.zero:aN:=⟨0,0,0⟩
def zb (f:Bool) (last:aN) (s:Bool × aN) (d:aN):Bool:=(f||jv last d)&&(!s.1||jv d s.2)
def gV (f:Bool) (last:aN):List aN->Bool × aN->Bool × aN
 | [],s=>s
 | d :: r,s=>gV f last r (if zb f last s d then (true,d) else s)
theorem yF {f:Bool} {last:aN}:∀ {l:List aN} {s:Bool × aN},(gV f last l s).1=true->gV f last l s=s\/((gV f last l s).2∈l/\(f||jv last (gV f last l s).2)=true)
 | [],s,_=>.inl rfl
 | d :: r,s,h=>by
  simp only [gV] at h |-;rcases yF (l:=r) h with e | ⟨h1,h2⟩
  ·rw [e];split
   ·rename_i hb;simp only [zb,bZ] at hb;exact .inr ⟨by simp,hb.1⟩
   ·exact .inl rfl
  ·exact .inr ⟨by simp [h1],h2⟩
def KL (f:Bool) (last:aN) (l:List aN):Nat:=l.countP fun d=>f||jv last d
theorem Qo {A:Type} {p q:A->Bool}:∀ {l:List A} {d:A},(∀ x,p x=true->q x=true)->d∈l->q d=true->p d=false->l.countP p < l.countP q
 | [],d,_,h,_,_=>by cases h
 | x :: r,d,hpq,hm,hq,hp=>by
  have hle:r.countP p<=r.countP q:=List.countP_mono_left fun y _ h=>hpq y h
  simp only [List.countP_cons];rcases List.mem_cons.1 hm with rfl | hm
  ·rw [hq,hp];simp;omega
  ·have:=Qo hpq hm hq hp
   by_cases hx:p x=true
   ·rw [if_pos hx,if_pos (hpq x hx)];omega
   ·rw [if_neg hx];omega
theorem E0 {f:Bool} {last d:aN} {l:List aN} (hm:d∈l) (hd:(f||jv last d)=true):KL false d l < KL f last l:=by
 refine Qo (fun x hx=>?_) hm hd ?_
 ·rw [Bool.false_or] at hx;cases f
  ·rw [Bool.false_or] at hd |-;rw [gC] at hx hd |-;omega
  ·rfl
 ·rw [Bool.false_or];cases h:jv d d
  ·rfl
  ·rw [gC] at h;omega
def Iz (l:List aN) (d:aN):List aN:=if ji d.who d.cur l==0 then [] else [⟨d.who,d.cur,ji d.who d.cur l⟩]
def Au (l:List aN):Nat->Bool->aN->List aN->List aN × Int
 | 0,_,_,out=>(out,0)
 | n+1,f,last,out =>
  if (gV f last l (false,.zero)).1 then
   (if kP (gV f last l (false,.zero)).2.who (gV f last l (false,.zero)).2.cur l=0 then Au l n false (gV f last l (false,.zero)).2 (out++Iz l (gV f last l (false,.zero)).2)
    else ([],kP (gV f last l (false,.zero)).2.who (gV f last l (false,.zero)).2.cur l))
  else (out,0)
def ju (l:List aN):List aN × Int:=if oY l then Au l (l.length+1) true .zero [] else ([],3)
theorem xP (w c:Int) (l:List aN):bP (ji w c l)=true:=by
 unfold ji;split
 ·rename_i h;unfold kP at h;split at h
  ·split at h
   ·assumption
   ·cases h
  ·cases h
 ·rfl
theorem KM (l:List aN) (hl:l.length < 2 ^ 29):Abs.Spec Tryz.prog 136 [] [.sl 3 (l.map aN.cells)] [.own 3 ((ju l).1.map aN.cells)] (.bI [.ref 0,.int .i64 (ju l).2]):=by
 have hM:=uU l (by omega);have hG:=fun w c=>uF w c l hl
 have hLs:∀ a b:aN,Abs.Spec Tryz.prog 192 [] [.agg a.cells,.agg b.cells] [] (.bool (jv a b)):=fun a b=>xg a b
 refine bg 78 1 [.tmp 2,.tmp 3] mixed Tryz.func136 ?_;simp only [go_sem,seval];refine aa.pure hM ?_;cases b1:oY l
 ·have e:ju l=([],3):=by simp [ju,b1]
  simp only [go_sem,seval,e]<;>simp
 have e:ju l=Au l (l.length+1) true .zero []:=by simp [ju,b1]
 obtain ⟨R,hR⟩:=aL (ju l);rw [<- hR];rw [<- hR] at e;clear hR hM;simp only [go_sem,seval]
 refine aC.PX (T:=Nat × aN × List aN) [0,5] [] (fun s=>[(6,.int .i64 ((l.length+1-s.1:Nat):Int)),(4,.ref 1248)]) (fun s=>[(96,.box s.2.1.cells),(1248,.own 3 (s.2.2.map aN.cells))])
  (fun s=>KL (s.1==l.length+1) s.2.1 l+1<=s.1/\s.1<=l.length+1/\s.2.2.length+s.1<=l.length+1/\Au l s.1 (s.1==l.length+1) s.2.1 s.2.2=R) (fun s=>s.1) (l.length+1,.zero,[]) ?_ ?_ ?_
 ·refine ⟨?_,Nat.le_refl _,by simp,by rw [e];simp⟩;have:KL (l.length+1==l.length+1) aN.zero l<=l.length:=List.countP_le_length
  show KL (l.length+1==l.length+1) aN.zero l+1<=l.length+1
  omega
 ·simp only [go_sem,seval,aN.zero]<;>simp
 rintro ⟨n,last,out⟩ ⟨h1,h2,h3,h4⟩
 dsimp only at h1 h2 h3 h4 |-;obtain ⟨m,rfl⟩:∃ m,n=m+1:=⟨n-1,by omega⟩
 have hk:l.length+1-(m+1)=l.length-m:=by omega
 obtain ⟨f,hf⟩:=aL ((m+1==l.length+1));have hf0:(((l.length-m:Nat):Int)==0)=f:=by rw [hf,Bool.eq_iff_iff];simp;omega
 rw [<- hf] at h1 h4;rw [hk];simp only [go_sem,seval];refine aC.walk (S:=Bool × aN) l.length [0,4,5,6,8] [96,1248] (fun i s=>[(9,.int .i64 i),(7,.bool s.1)]) (fun i s=>[(144,.box s.2.cells)]) (fun i s=>gV f last (l.drop i) s=gV f last l (false,.zero)) (false,.zero) rfl ?_ ?_ ?_
 ·simp only [go_sem,seval,aN.zero]<;>simp
 ·rintro i ⟨s1,s2⟩ hi hdi hwi hI
  have hm:=aD (c:=aN.cells) l hi;have hli:(i:Int) < (l.length:Int):=by omega
  obtain ⟨x,hx⟩:=aL (l[i]);have k1:=hLs last x;have k2:=hLs x s2;rw [dy hi,<- hx] at hI;rw [<- hx] at hm;simp only [gV,zb] at hI;simp only [aN.cells] at hm k1 k2;clear hG hLs h4;cases f
  ·simp only [go_sem,seval,aG,hdi,hm,hf0];(with_reducible and_intros)<;>first|exact .dq|omega|skip
   refine aa.pure k1 ?_;cases q1:jv last x
   ·simp only [q1,Bool.false_or,Bool.false_and,fY,if_false] at hI;simp only [go_sem,seval,q1,hwi];(with_reducible and_intros)<;>first|exact .dq|omega|skip
    refine ah.step (s1,s2) hi hI ?_;simp only [go_sem,seval]
   cases s1
   ·simp only [q1,Bool.false_or,Bool.true_and,Bool.not_false,Bool.true_or,if_true] at hI;simp only [go_sem,seval,aG,q1,hm,hwi];(with_reducible and_intros)<;>first|exact .dq|omega|skip
    refine ah.step (true,x) hi hI ?_;simp only [go_sem,seval]
   simp only [go_sem,seval,q1,aG,hm];(with_reducible and_intros)<;>first|exact .dq|omega|skip
   refine aa.pure k2 ?_;cases q2:jv x s2
   ·simp only [q1,q2,Bool.false_or,Bool.true_and,Bool.not_true,fY,if_false] at hI;simp only [go_sem,seval,q2,hwi];(with_reducible and_intros)<;>first|exact .dq|omega|skip
    refine ah.step (true,s2) hi hI ?_;simp only [go_sem,seval]
   simp only [q1,q2,Bool.false_or,Bool.true_and,Bool.not_true,Bool.or_true,if_true] at hI;simp only [go_sem,seval,q2,hwi,aG,hm];(with_reducible and_intros)<;>first|exact .dq|omega|skip
   refine ah.step (true,x) hi hI ?_;simp only [go_sem,seval]
  ·cases s1
   ·simp only [Bool.true_or,Bool.true_and,Bool.not_false,if_true] at hI;simp only [go_sem,seval,aG,hdi,hm,hf0,hwi];(with_reducible and_intros)<;>first|exact .dq|omega|skip
    refine ah.step (true,x) hi hI ?_;simp only [go_sem,seval]
   simp only [go_sem,seval,aG,hdi,hm,hf0];(with_reducible and_intros)<;>first|exact .dq|omega|skip
   refine aa.pure k2 ?_;cases q2:jv x s2
   ·simp only [q2,Bool.true_or,Bool.true_and,Bool.not_true,Bool.or_false,fY,if_false] at hI;simp only [go_sem,seval,q2,hwi];(with_reducible and_intros)<;>first|exact .dq|omega|skip
    refine ah.step (true,s2) hi hI ?_;simp only [go_sem,seval]
   simp only [q2,Bool.true_or,Bool.true_and,Bool.not_true,Bool.or_true,if_true] at hI;simp only [go_sem,seval,q2,hwi,aG,hm];(with_reducible and_intros)<;>first|exact .dq|omega|skip
   refine ah.step (true,x) hi hI ?_;simp only [go_sem,seval]
 ·rintro ⟨s1,s2⟩ hdx hI
  rw [List.drop_length] at hI;have hI:gV f last l (false,.zero)=(s1,s2):=hI.symm;simp only [Au,hI] at h4;have hG:=hG s2.who s2.cur;have hin:=cm.1 (xP s2.who s2.cur l);cases s1
  ·simp only [fY,if_false] at h4;rw [<- h4];simp only [go_sem,seval,aG,hdx]
  have hmem:s2∈l/\(f||jv last s2)=true:=by
   have:=yF (f:=f) (last:=last) (l:=l) (s:=(false,.zero)) (by rw [hI]);rw [hI] at this;rcases this with h | h
   ·cases h
   ·exact h
  have hcn:=E0 hmem.1 hmem.2;simp only [if_true] at h4;simp only [go_sem,seval,aG,hdx];(with_reducible and_intros)<;>first|exact .dq|omega|skip
  refine aa.pure hG ?_
  by_cases q1:kP s2.who s2.cur l=0
  case neg =>
   have d:(kP s2.who s2.cur l==0)=false:=by simpa using q1
   rw [if_neg q1] at h4;rw [<- h4];simp only [go_sem,seval,bne,d]
   all_goals simp
  rw [if_pos q1] at h4;have hwk:IntKind.wrap .i64 (((l.length-m:Nat):Int)+1)=((l.length+1-m:Nat):Int):=by rw [bz (by omega) (by omega)];omega
  have hfm:(m==l.length+1)=false:=by simp;omega
  simp only [Iz] at h4;cases q2:ji s2.who s2.cur l==0
  ·simp only [q2,fY,if_false] at h4;simp only [go_sem,seval,bne,q1,q2,hwk,aG];(with_reducible and_intros)<;>first|exact .dq|omega|skip
   refine ⟨(m,s2,out++[⟨s2.who,s2.cur,ji s2.who s2.cur l⟩]),⟨?_,by omega,by simp;omega,by simp only [hfm];exact h4⟩,?_,by simp⟩
   ·simp only [hfm];omega
   ·simp only [go_sem,seval]<;>simp
  ·simp only [q2,if_true,List.append_nil] at h4;simp only [go_sem,seval,bne,q1,q2,hwk];(with_reducible and_intros)<;>first|exact .dq|omega|skip
   refine ⟨(m,s2,out),⟨?_,by omega,by simp;omega,by simp only [hfm];exact h4⟩,?_,by simp⟩
   ·simp only [hfm];omega
   ·simp only [go_sem,seval]
theorem zn (l:List aN) (hl:l.length < 2 ^ 29):Abs.Spec Tryz.prog 136 [] [.sl 3 (l.map aN.cells)] [] (.bI [.sl 3 ((ju l).1.map aN.cells),.int .i64 (ju l).2]):=by
 refine Spec.frozen (KM l hl) [0] rfl ?_;intro r;rcases r with _ | r<;>rfl
end Go.Proofs.YtnkobepdbkmedaaGreat
