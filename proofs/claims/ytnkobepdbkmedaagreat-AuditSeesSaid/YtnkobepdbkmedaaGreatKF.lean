/- The reference's postings: accounts, legs, and what follows. No theorem of a claim. -/
import Derived.Test.YtnkobepdbkmedaaGreatKD
import Derived.Test.YtnkobepdbkmedaaGreatAbcAuto
import Derived.Test.YtnkobepdbkmedaaGreatKE
set_option linter.unusedSimpArgs false
set_option linter.unusedVariables false
set_option maxHeartbeats 4000000
set_option maxRecDepth 16000
namespace Go.Proofs.YtnkobepdbkmedaaGreat
open Go.Abs
structure aX where
 kind:Int
 who:Int
 cur:Int
 bV:Int
deriving DecidableEq
@[reducible] def aX.cells (x:aX):List D:=[.int .i64 x.kind,.int .i64 x.who,.int .i64 x.cur,.int .i64 x.bV]
def aX.bG (x:aX):aH:=⟨x.kind,x.who,x.cur⟩
def aX.cE (x:aX):Prop:=eT x.kind/\eT x.who/\eT x.cur/\eT x.bV
def acc (k w c:Nat):List aH:=if aH.right ⟨(k:Int)+1,w,c⟩ then [⟨(k:Int)+1,w,c⟩] else []
def xR (k w:Nat) (i:Nat):List aH:=(List.range i).flatMap (acc k w)
def xF (k:Nat) (i:Nat):List aH:=(List.range i).flatMap fun w=>xR k w 3
def B1 (i:Nat):List aH:=(List.range i).flatMap fun k=>xF k 17
def gE:List aH:=B1 6
theorem Kr (k w i:Nat):(xR k w i).length<=i:=by
 have:=yp (f:=acc k w) (m:=1) (fun c=>by simp only [acc];split<;>simp) i;simpa [xR] using this
theorem JM (k i:Nat):(xF k i).length<=3*i:=yp (fun w=>Kr k w 3) i
theorem I0 (i:Nat):(B1 i).length<=51*i:=yp (fun k=>JM k 17) i
theorem wV:gE.length<=306:=I0 6
theorem v8:Abs.Spec Tryz.prog 176 [] [.sl 1 [[.int .i64 1],[.int .i64 2],[.int .i64 3],[.int .i64 4],[.int .i64 5],[.int .i64 6]]] [.own 3 (gE.map aH.cells)] (.ref 0):=by
 obtain ⟨ks,hks⟩:=aL ([1,2,3,4,5,(6:Int)]);have hl:ks.length=6:=by rw [hks];rfl
 have he:([[.int .i64 1],[.int .i64 2],[.int .i64 3],[.int .i64 4],[.int .i64 5],[.int .i64 6]]:List (List D))=ints ks:=by rw [hks];rfl
 have hin:∀ i:Nat,i < 6->qF ks ((i:Int)+1)=true:=fun i hi=>by
  rw [hks];simp only [qF,List.any_cons,List.any_nil,Bool.or_eq_true,beq_iff_eq];omega
 rw [he];clear he hks;refine bg 51 1 [.tmp 2] mixed Tryz.func176 ?_;simp only [go_sem,seval];refine aC.walk (S:=Unit) 6 [0] [] (fun i _=>[(4,.int .i64 ((i:Int)+1)),(3,.ref 800)]) (fun i _=>[(800,.own 3 ((B1 i).map aH.cells))]) (fun _ _=>True) () trivial ?_ ?_ ?_
 ·simp only [go_sem,seval]<;>simp [B1]
 ·intro k _ hk _ _ _;have hd:decide ((k:Int)+1<=6)=true:=decide_eq_true (by omega);have hwk:IntKind.wrap .i64 ((k:Int)+1+1)=((k+1:Nat):Int)+1:=by rw [bz (by omega) (by omega)];omega
  obtain ⟨K,hK⟩:=aL ((k:Int)+1);have hnext:B1 (k+1)=B1 k++xF k 17:=tT _ k;have hlen:=I0 k;rw [<- hK] at hd hwk |-;simp only [go_sem,seval,hd,ay,hl];refine aC.walk (S:=Unit) 6 [0,3,4] [800] (fun j _=>[(6,.int .i64 j),(5,.bool (qF (ks.take j) K))]) (fun _ _=>[]) (fun _ _=>True) () trivial ?_ ?_ ?_
  ·simp only [go_sem,seval]<;>simp [qF]
  ·intro j _ hj hdj hwj _;have hj':j < ks.length:=by omega
   have hst:=vX ks K hj';have hdj:decide ((j:Int) < 6)=true:=hdj;cases hb:qF (ks.take j) K
   ·rw [hb,Bool.false_or] at hst;simp only [go_sem,seval,ay,hl,hdj,ints_at ks hj',hwj];(with_reducible and_intros)<;>first|exact .dq|omega|skip
    refine ah.step () hj trivial ?_;simp only [go_sem,seval,hst]
   ·rw [hb,Bool.true_or] at hst;simp only [go_sem,seval,ay,hl,hdj,ints_at ks hj',hwj];(with_reducible and_intros)<;>first|exact .dq|omega|skip
    refine ah.step () hj trivial ?_;simp only [go_sem,seval,hst]
  intro _ hdj _;have hdj:decide ((6:Int) < 6)=false:=hdj;have hy:qF (ks.take 6) K=true:=by rw [<- hl,List.take_length,hK];exact hin k hk
  rw [hy];simp only [go_sem,seval,ay,hl,hdj];refine aC.walk (S:=Unit) 17 [0,4,5] [] (fun j _=>[(7,.int .i64 j),(3,.ref 800)]) (fun j _=>[(800,.own 3 ((B1 k++xF k j).map aH.cells))]) (fun _ _=>True) () trivial ?_ ?_ ?_
  ·simp only [go_sem,seval]<;>simp [xF]
  ·intro w _ hw hdw hww _;have hdw:decide ((w:Int)<=16)=true:=decide_eq_true (by omega);have hnw:xF k (w+1)=xF k w++xR k w 3:=tT _ w;have hlw:=JM k w;simp only [go_sem,seval,hdw];refine aC.walk (S:=Unit) 3 [0,4,5,7] [] (fun j _=>[(8,.int .i64 j),(3,.ref 800)]) (fun j _=>[(800,.own 3 ((B1 k++xF k w++xR k w j).map aH.cells))]) (fun _ _=>True) () trivial ?_ ?_ ?_
   ·simp only [go_sem,seval]<;>simp [xR]
   ·intro c _ hc hdc hwc _;have hdc:decide ((c:Int) < 3)=true:=hdc;have hnc:xR k w (c+1)=xR k w c++acc k w c:=tT _ c;have hlc:=Kr k w c;have hR:=fI ⟨K,w,c⟩;simp only [aH.cells] at hR;simp only [acc,<- hK] at hnc;simp only [go_sem,seval,hdc];(with_reducible and_intros)<;>first|exact .dq|omega|skip
    refine aa.pure hR ?_;cases hb:aH.right ⟨K,w,c⟩
    ·rw [hb] at hnc;simp only [go_sem,seval,hwc];refine ah.step () hc trivial ?_;simp only [go_sem,seval,hnc]<;>simp
    ·rw [hb] at hnc;simp only [go_sem,seval,hwc,aG,List.length_append];(with_reducible and_intros)<;>first|exact .dq|omega|skip
     refine ah.step () hc trivial ?_;simp only [go_sem,seval,hnc]<;>simp [aH.cells]
   ·intro _ hdc _;have hdc:decide ((3:Int) < 3)=false:=hdc;simp only [go_sem,seval,hdc,hww];refine ah.step () hw trivial ?_;simp only [go_sem,seval,hnw]<;>simp
  ·intro _ _ _;simp only [go_sem,seval,hwk];refine ah.step () hk trivial ?_;simp only [go_sem,seval,hnext]<;>simp
 ·intro _ _ _;simp only [go_sem,seval,gE]
def M4 (x:aX):Bool:=x.bG.right&&bP x.bV
def zT (l:List aX):Bool:=l.all M4
theorem wC (l:List aX) (hl:l.length < 2 ^ 40):Abs.Spec Tryz.prog 213 [] [.sl 4 (l.map aX.cells)] [] (.bool (zT l)):=by
 refine bg 26 1 [.tmp 2] mixed Tryz.func213 ?_;simp only [go_sem,seval,aG];refine aC.walk (S:=Unit) l.length [0] [] (fun i _=>[(3,.int .i64 i)]) (fun _ _=>[]) (fun i _=>zT (l.drop i)=zT l) () rfl ?_ ?_ ?_
 ·simp only [go_sem,seval]<;>simp
 ·intro i _ hi hdi hwi hI;have hm:=aD (c:=aX.cells) l hi;obtain ⟨x,hx⟩:=aL (l[i]);have hR:=fI x.bG;have hN:=cY x.bV;have hli:(i:Int) < (l.length:Int):=by omega
  rw [dy hi,<- hx] at hI;rw [<- hx] at hm;have hk:M4 x=(aH.right ⟨x.kind,x.who,x.cur⟩&&bP x.bV):=rfl;simp only [zT,List.all_cons,hk] at hI;simp only [aX.cells] at hm;simp only [aH.cells,aX.bG] at hR;simp only [go_sem,seval,aG,hdi,hm];(with_reducible and_intros)<;>first|exact .dq|omega|skip
  refine aa.pure hR ?_;cases b1:aH.right ⟨x.kind,x.who,x.cur⟩
  ·rw [b1] at hI;simp only [go_sem,seval,zT,<- hI,Bool.false_and]
  simp only [go_sem,seval,aG,hm];(with_reducible and_intros)<;>first|exact .dq|omega|skip
  refine aa.pure hN ?_;cases b2:bP x.bV
  ·rw [b1,b2] at hI;simp only [go_sem,seval,zT,<- hI,Bool.false_and,Bool.and_false]
  rw [b1,b2,Bool.and_self,Bool.true_and] at hI;simp only [go_sem,seval,hwi];refine ah.step () hi hI ?_;simp only [go_sem,seval]
 ·intro _ hdx hI;rw [List.drop_length] at hI;simp only [go_sem,seval,aG,hdx,<- hI];rfl
def bN (a b:aH) (n:Int):List aX:=[⟨a.kind,a.who,a.cur,-(if bP n then n else 0)⟩,⟨b.kind,b.who,b.cur,if bP n then n else 0⟩]
theorem Gl (a b:aH) (n:Int):Abs.Spec Tryz.prog 59 [] [.agg a.cells,.agg b.cells,.int .i64 n] [.own 4 ((bN a b n).map aX.cells)] (.ref 0):=by
 have hN:=cY n;have hw:bP n=true->IntKind.wrap .i64 (0-n) = -n:=fun h=>by have:=cm.1 h;rw [bz (by omega) (by omega)];omega
 simp only [aH.cells];refine bg 18 3 [.tmp 6] mixed Tryz.func59 ?_;simp only [go_sem,seval];refine aa.pure hN ?_;cases b1:bP n
 ·simp only [go_sem,seval,bN,b1]<;>simp;rfl
 ·simp only [go_sem,seval,bN,b1,hw b1]<;>simp
theorem ij (a b:aH) (n:Int):Abs.Spec Tryz.prog 59 [] [.agg a.cells,.agg b.cells,.int .i64 n] [] (.sl 4 ((bN a b n).map aX.cells)):=by
 refine Spec.frozen (Gl a b n) [0] rfl ?_;intro r;rcases r with _ | r<;>rfl
def pick {A:Type} (p:A->Bool) (f:A->Int) (xs:List A):List Int:=xs.flatMap fun x=>if p x then [f x] else []
theorem EU {A:Type} (p:A->Bool) (f:A->Int) {xs:List A} {i:Nat} (h:i < xs.length):pick p f (xs.take (i+1))=pick p f (xs.take i)++(if p xs[i] then [f xs[i]] else []):=gm _ h
theorem bY {A:Type} (p:A->Bool) (f:A->Int) (xs:List A):(pick p f xs).length<=xs.length:=by
 have:=fu (f:=fun x=>if p x then [f x] else []) (m:=1) (fun x=>by split<;>simp) xs;simpa [pick] using this
theorem ku {A:Type} {p:A->Bool} {f:A->Int} {xs:List A} {R:Int->Prop} (h:∀ x∈xs,R (f x)):∀ n∈pick p f xs,R n:=by
 intro n hn;obtain ⟨x,hx,hn⟩:=List.mem_flatMap.1 hn;split at hn
 ·obtain rfl:n=f x:=by simpa using hn
  exact h x hx
 ·cases hn
theorem fL {A:Type} (p:A->Bool) (f:A->Int) {xs:List A} {i:Nat} (h:i < xs.length):ints (pick p f (xs.take (i+1)))=ints (pick p f (xs.take i))++(if p xs[i] then [[.int .i64 (f xs[i])]] else []):=by
 rw [EU p f h];unfold ints;rw [List.map_append];split<;>rfl
theorem abr (l:List Int):(bP (az l)&&addN l==0)=(az l==0):=by
 unfold addN;cases h:bP (az l)
 ·have:az l≠0:=fun e=>by rw [e] at h;cases h
  simp [this]
 ·simp
theorem BN {l:List aX} (h:zT l=true):∀ x∈l,x.bG.right=true/\bP x.bV=true:=fun x hx=>by
 have:=List.all_eq_true.1 h x hx;simpa only [M4,bW] using this
def qE (c:Int) (l:List aX):List Int:=pick (fun x=>x.cur==c) aX.bV l
def yR (l:List aX):Bool:=(List.range 3).all fun c=>az (qE c l)==0
def rY (l:List aX):Int:=if l.length=0 then 2 else if 64 < l.length then 5 else if zT l then (if yR l then 0 else 12) else 3
theorem Bp (l:List aX) (hl:l.length < 2 ^ 30):Abs.Spec Tryz.prog 175 [] [.sl 4 (l.map aX.cells)] [] (.int .i64 (rY l)):=by
 have hM:=wC l (by omega);refine bg 54 1 [.tmp 2] mixed Tryz.func175 ?_;simp only [go_sem,seval,aG]
 by_cases h0:l.length=0
 ·have d:((l.length:Int)==0)=true:=by simp [h0]
  have e:rY l=2:=by simp [rY,h0]
  simp only [go_sem,seval,d,e]
 have d0:((l.length:Int)==0)=false:=by simpa using h0
 by_cases h1:64 < l.length
 ·have d:decide (64 < (l.length:Int))=true:=decide_eq_true (by omega);have e:rY l=5:=by simp only [rY];rw [if_neg h0,if_pos h1]
  simp only [go_sem,seval,d0,d,e,aG]
 have d1:decide (64 < (l.length:Int))=false:=decide_eq_false (by omega);simp only [go_sem,seval,d0,d1,aG];refine aa.pure hM ?_;cases b1:zT l
 ·have e:rY l=3:=by simp only [rY];rw [if_neg h0,if_neg h1,b1];rfl
  simp only [go_sem,seval,e]
 have e:rY l=if yR l then 0 else 12:=by simp only [rY];rw [if_neg h0,if_neg h1,b1];rfl
 have hmm:=BN b1;rw [e];clear e d0 d1 hM;simp only [go_sem,seval];refine aC.walk (S:=Unit) 3 [0] [] (fun i _=>[(3,.int .i64 i)]) (fun _ _=>[]) (fun i _=>∀ c < i,(az (qE (c:Nat) l)==0)=true) () (by simp) ?_ ?_ ?_
 ·simp only [go_sem,seval]<;>simp
 ·intro c _ hc hdc hwc hI;have hdc:decide ((c:Int) < 3)=true:=hdc;have hA:=cu (qE c l) (ku fun x hx=>n5 (hmm x hx).2) (by have:=bY (fun x:aX=>x.cur==(c:Int)) aX.bV l;unfold qE;omega);have h0:=abr (qE c l);simp only [go_sem,seval,hdc,aG];refine aC.walk (S:=Unit) l.length [0,3] [] (fun i _=>[(5,.int .i64 i),(4,.ref 688)]) (fun i _=>[(688,.own 1 (ints (qE c (l.take i))))]) (fun _ _=>True) () trivial ?_ ?_ ?_
  ·simp only [go_sem,seval]<;>simp [qE,pick,ints]
  ·intro i _ hi hdi hwi _;have hm:=aD (c:=aX.cells) l hi;have hs:ints (qE c (l.take (i+1)))=_:=fL (fun x:aX=>x.cur==(c:Int)) aX.bV hi;have hlen:=bY (fun x:aX=>x.cur==(c:Int)) aX.bV (l.take i);have hlt:(l.take i).length=i:=by simp;omega
   have hli:(i:Int) < (l.length:Int):=by omega
   have hlen:(qE c (l.take i)).length<=i:=by unfold qE;omega
   obtain ⟨x,hx⟩:=aL (l[i]);rw [<- hx] at hs hm;simp only [aX.cells] at hm;simp only [go_sem,seval,aG,hdi,hm];(with_reducible and_intros)<;>first|exact .dq|omega|skip
   cases hb:x.cur==(c:Int)
   ·simp only [hb,fZ,if_false,if_true,List.append_nil] at hs;simp only [go_sem,seval,hwi];refine ah.step () hi trivial ?_;simp only [go_sem,seval,hs]<;>simp [qE]
   ·simp only [hb,fZ,if_false,if_true,List.append_nil] at hs;simp only [go_sem,seval,hwi,ay,aG,hm];(with_reducible and_intros)<;>first|exact .dq|omega|skip
    refine ah.step () hi trivial ?_;simp only [go_sem,seval,hs]<;>simp [qE]
  ·intro _ hdx _;simp only [go_sem,seval,hdx,aG,List.take_length];refine aa.gen [] [] true (by simp) ?_;simp only [go_sem,seval];refine aY.intro hA ?_;cases b1:bP (az (qE c l))
   ·have:yR l=false:=by
     rw [yR,List.all_eq_false];exact ⟨c,List.mem_range.2 hc,by rw [b1] at h0;rw [<- h0];simp⟩
    simp only [go_sem,seval,b1,this]
   cases b2:addN (qE c l)==0
   ·have:yR l=false:=by
     rw [yR,List.all_eq_false];exact ⟨c,List.mem_range.2 hc,by rw [b1,b2] at h0;rw [<- h0];simp⟩
    simp only [go_sem,seval,b1,bne,b2,this]
   rw [b1,b2] at h0;simp only [go_sem,seval,b1,bne,b2,hwc];refine ah.step () hc ?_ ?_
   ·intro k hk;rcases Nat.lt_or_ge k c with h | h
    ·exact hI k h
    ·obtain rfl:k=c:=by omega
     exact h0.symm
   ·simp only [go_sem,seval]
 ·intro _ hdc hI;have hdc:decide ((3:Int) < 3)=false:=hdc;have:yR l=true:=List.all_eq_true.2 fun c hc=>hI c (List.mem_range.1 hc)
  simp only [go_sem,seval,hdc,this]
def dK (a:aH) (l:List aX):List Int:=pick (fun x=>x.bG.same a) aX.bV l
def Bm (a:aH) (n:Int):List aX:=if n==0 then [] else [⟨a.kind,a.who,a.cur,n⟩]
def wT (l:List aX) (ys:List aH):List aX:=ys.flatMap fun a=>Bm a (az (dK a l))
def qO (l:List aX) (ys:List aH):Bool:=ys.all fun a=>bP (az (dK a l))
def mV (l:List aX):Int:=if zT l then (if qO l gE then 0 else 1) else 3
def iK (l:List aX):List aX:=if mV l=0 then wT l gE else []
theorem P2 (a:aH) (n:Int):(Bm a n).length<=1:=by unfold Bm;split<;>simp
theorem EO (l:List aX) (ys:List aH):(wT l ys).length<=ys.length:=by
 have:=fu (f:=fun a=>Bm a (az (dK a l))) (m:=1) (fun a=>P2 _ _) ys;simpa [wT] using this
theorem G4 (l:List aX) (hl:l.length < 2 ^ 29):Abs.Spec Tryz.prog 193 [] [.sl 4 (l.map aX.cells)] [.own 4 ((iK l).map aX.cells)] (.bH [.ref 0,.int .i64 (mV l)]):=by
 have hM:=wC l (by omega);have hAll:=v8;refine bg 65 1 [.tmp 2,.tmp 3] mixed Tryz.func193 ?_;simp only [go_sem,seval];refine aa.pure hM ?_;cases b1:zT l
 ·have e:mV l=3:=by simp [mV,b1]
  have e2:iK l=[]:=by simp [iK,e]
  simp only [go_sem,seval,e,e2]<;>simp
 have e:mV l=if qO l gE then 0 else 1:=by simp [mV,b1]
 have e2:iK l=if qO l gE then wT l gE else []:=by simp only [iK,e];cases qO l gE<;>simp
 have hmm:=BN b1;have hal:=wV;rw [e,e2];clear e e2 hM;obtain ⟨ys,has⟩:=aL (gE);rw [<- has] at hAll hal |-;clear has;simp only [go_sem,seval];refine aa.gen [240] [] false (by simp) ?_;simp only [go_sem,seval];refine aY.intro hAll ?_;simp only [go_sem,seval,aG];refine aC.walk (S:=Unit) ys.length [0,5] [256] (fun i _=>[(6,.int .i64 i),(4,.ref 1024)]) (fun i _=>[(1024,.own 4 ((wT l (ys.take i)).map aX.cells))]) (fun i _=>qO l (ys.drop i)=qO l ys) () rfl ?_ ?_ ?_
 ·simp only [go_sem,seval]<;>simp [wT]
 ·intro k _ hk hdk hwk hI;have hma:=aD (c:=aH.cells) ys hk;have hlk:(k:Int) < (ys.length:Int):=by omega
  have hnx:wT l (ys.take (k+1))=wT l (ys.take k)++_:=gm _ hk;have hjl:=EO l (ys.take k);have hjt:(ys.take k).length=k:=by simp;omega
  obtain ⟨a,ha⟩:=aL (ys[k]);rw [dy hk,<- ha] at hI;simp only [qO,List.all_cons] at hI;rw [<- ha] at hma hnx;have hA:=cu (dK a l) (ku fun x hx=>n5 (hmm x hx).2) (by have:=bY (fun x:aX=>x.bG.same a) aX.bV l;unfold dK;omega);simp only [aH.cells] at hma;simp only [go_sem,seval,hdk,aG];refine aC.walk (S:=Unit) l.length [0,4,5,6] [256,1024] (fun i _=>[(8,.int .i64 i),(7,.ref 736)]) (fun i _=>[(736,.own 1 (ints (dK a (l.take i))))]) (fun _ _=>True) () trivial ?_ ?_ ?_
  ·simp only [go_sem,seval]<;>simp [dK,pick,ints]
  ·intro i _ hi hdi hwi _;have hm:=aD (c:=aX.cells) l hi;have hs:ints (dK a (l.take (i+1)))=ints (dK a (l.take i))++_:=fL (fun x:aX=>x.bG.same a) aX.bV hi;have hlen:=bY (fun x:aX=>x.bG.same a) aX.bV (l.take i);have hlt:(l.take i).length=i:=by simp;omega
   have hli:(i:Int) < (l.length:Int):=by omega
   have hlen:(dK a (l.take i)).length<=i:=by unfold dK;omega
   obtain ⟨x,hx⟩:=aL (l[i]);have hS:Abs.Spec Tryz.prog 152 [] [.agg [.int .i64 x.kind,.int .i64 x.who,.int .i64 x.cur],.agg [.int .i64 a.kind,.int .i64 a.who,.int .i64 a.cur]] [] (.bool (x.bG.same a)):=pq x.bG a;rw [<- hx] at hs hm;simp only [aX.cells] at hm;simp only [go_sem,seval,aG,hdi,hm,hma];(with_reducible and_intros)<;>first|exact .dq|omega|skip
   refine aa.pure hS ?_;cases hb:x.bG.same a
   ·simp only [hb,fZ,if_false,if_true,List.append_nil] at hs;simp only [go_sem,seval,hwi];refine ah.step () hi trivial ?_;simp only [go_sem,seval,hs]
   ·simp only [hb,fZ,if_false,if_true,List.append_nil] at hs;simp only [go_sem,seval,hwi,ay,aG,hm];(with_reducible and_intros)<;>first|exact .dq|omega|skip
    refine ah.step () hi trivial ?_;simp only [go_sem,seval,hs]
  ·intro _ hdx _;simp only [go_sem,seval,hdx,aG,List.take_length];refine aa.gen [] [] true (by simp) ?_;simp only [go_sem,seval];refine aY.intro hA ?_;cases b1:bP (az (dK a l))
   ·rw [b1,Bool.false_and] at hI;have:qO l ys=false:=hI.symm;simp only [go_sem,seval,b1,this]<;>simp
   rw [b1,Bool.true_and] at hI;have hn:addN (dK a l)=az (dK a l):=by simp [addN,b1]
   rw [hn];cases b2:az (dK a l)==0
   ·simp only [Bm,b2] at hnx;simp only [go_sem,seval,b1,bne,b2,hwk,hma,aG];(with_reducible and_intros)<;>first|exact .dq|omega|skip
    refine ah.step () hk hI ?_;simp only [go_sem,seval,hnx]<;>simp
   ·simp only [Bm,b2] at hnx;simp only [go_sem,seval,b1,bne,b2,hwk];refine ah.step () hk hI ?_;simp only [go_sem,seval,hnx]<;>simp
 ·intro _ hdx hI;rw [List.drop_length] at hI;have:qO l ys=true:=hI.symm;simp only [go_sem,seval,hdx,aG,this,List.take_length]<;>simp
theorem lV (l:List aX) (hl:l.length < 2 ^ 29):Abs.Spec Tryz.prog 193 [] [.sl 4 (l.map aX.cells)] [] (.bH [.sl 4 ((iK l).map aX.cells),.int .i64 (mV l)]):=by
 refine Spec.frozen (G4 l hl) [0] rfl ?_;intro r;rcases r with _ | r<;>rfl
def mK (l:bq) (g:List aX) (a:aH):Int:=az (gB a l.bs :: dK a g)
def qi (a:aH) (n:Int):List bp:=if n==0 then [] else [⟨a.kind,a.who,a.cur,n⟩]
def DD (l:bq) (g:List aX) (ys:List aH):List bp:=ys.flatMap fun a=>qi a (mK l g a)
def xm (l:bq) (g:List aX) (ys:List aH):Bool:=ys.all fun a=>bP (mK l g a)
def sB (l:bq) (g:List aX) (ys:List aH):Bool:=ys.any fun a=>decide (mK l g a < a.floor)
def eH (l:bq) (id:Int) (g:List aX):Int:=
 if l.okB then (if within id 1 1099511627776 then (if id<=l.last then 18 else if rY g=0 then (if xm l g gE then (if sB l g gE then 13 else 0) else 1) else rY g) else 3) else 14
def gG (l:bq) (id:Int) (g:List aX):bq:=if eH l id g=0 then ⟨id,DD l g gE⟩ else ⟨0,[]⟩
theorem Ki (a:aH) (n:Int):(qi a n).length<=1:=by unfold qi;split<;>simp
theorem Jp (l:bq) (g:List aX) (ys:List aH):(DD l g ys).length<=ys.length:=by
 have:=fu (f:=fun a=>qi a (mK l g a)) (m:=1) (fun a=>Ki _ _) ys;simpa [DD] using this
theorem J1 {g:List aX} (h:rY g=0):zT g=true/\yR g=true/\g.length<=64:=by
 unfold rY at h;split at h
 ·cases h
 split at h
 ·cases h
 split at h
 ·split at h
  ·rename_i h1 h2 h3 h4;exact ⟨h3,h4,by omega⟩
  ·cases h
 ·cases h
theorem Gp (l:bq) (id:Int) (g:List aX) (hl:l.bs.length < 2 ^ 30) (hr:∀ b∈l.bs,b.cE) (hg:g.length < 2 ^ 29):Abs.Spec Tryz.prog 126 [] [.agg l.cells,.int .i64 id,.sl 4 (g.map aX.cells)] [.own 4 ((gG l id g).bs.map bp.cells)] (.bH [.agg [.int .i64 (gG l id g).last,.ref 0],.int .i64 (eH l id g)]):=by
 have hL:=gW l hl hr;have hC:=Bp g (by omega);have hAll:=v8;have hO:=fun a=>j4 l a hl
 have hor:=fun a=>MB (a:=a) hr
 simp only [bq.cells,aH.cells] at hL hO |-;refine bg 116 3 [.cell 6 36,.tmp 7] mixed Tryz.func126 ?_;simp only [go_sem,seval];refine aa.pure hL ?_;cases b1:l.okB
 ·have e:eH l id g=14:=by simp [eH,b1]
  simp only [go_sem,seval,gG,e]<;>simp
 cases b2:within id 1 1099511627776
 ·have e:eH l id g=3:=by simp [eH,b1,b2]
  simp only [within,Bool.and_eq_false_iff,decide_eq_false_iff_not] at b2
  by_cases h:id < 1
  ·have d:decide (id < 1)=true:=decide_eq_true h;simp only [go_sem,seval,d,gG,e]<;>simp
  ·have d:decide (id < 1)=false:=decide_eq_false h;have d2:decide (1099511627776 < id)=true:=decide_eq_true (by omega);simp only [go_sem,seval,d,d2,gG,e]<;>simp
 have d1:decide (id < 1)=false:=by simp only [within,bW,decide_eq_true_eq] at b2;exact decide_eq_false (by omega)
 have d2:decide (1099511627776 < id)=false:=by simp only [within,bW,decide_eq_true_eq] at b2;exact decide_eq_false (by omega)
 by_cases h3:id<=l.last
 ·have d3:decide (id<=l.last)=true:=decide_eq_true h3;have e:eH l id g=18:=by simp [eH,b1,b2,h3]
  simp only [go_sem,seval,d1,d2,d3,gG,e]<;>simp
 have d3:decide (id<=l.last)=false:=decide_eq_false h3;simp only [go_sem,seval,d1,d2,d3];refine aa.pure hC ?_;cases b4:rY g==0
 ·have h4:rY g≠0:=by simpa using b4
  have e:eH l id g=rY g:=by simp [eH,b1,b2,h3,h4]
  have e2:gG l id g=⟨0,[]⟩:=by simp [gG,e,h4]
  simp only [go_sem,seval,bne,b4,e,e2]<;>simp
 have h4:rY g=0:=by simpa using b4
 have e:eH l id g=if xm l g gE then (if sB l g gE then 13 else 0) else 1:=by simp [eH,b1,b2,h3,h4]
 have hmm:=BN (J1 h4).1;have hal:=wV;simp only [gG];rw [e];clear e hL hC b2 d1 d2 d3;obtain ⟨ys,has⟩:=aL (gE);rw [<- has] at hAll hal |-;clear has;simp only [go_sem,seval,bne,b4];refine aa.gen [704] [] false (by simp) ?_;simp only [go_sem,seval];refine aY.intro hAll ?_;simp only [go_sem,seval,aG];refine aC.walk (S:=Unit) ys.length [2,3,6,8,10,12] [64,112,144,720] (fun i _=>[(13,.int .i64 i),(11,.bool (sB l g (ys.take i)))]) (fun i _=>[(176,.box [.int .i64 id,.ref 1792]),(1792,.own 4 ((DD l g (ys.take i)).map bp.cells))]) (fun i _=>xm l g (ys.drop i)=xm l g ys) () rfl ?_ ?_ ?_
 ·simp only [go_sem,seval]<;>simp [DD,sB]
 ·intro k _ hk hdk hwk hI;have hma:=aD (c:=aH.cells) ys hk;have hlk:(k:Int) < (ys.length:Int):=by omega
  have hnx:DD l g (ys.take (k+1))=DD l g (ys.take k)++_:=gm _ hk
  have hnf:sB l g (ys.take (k+1))=(sB l g (ys.take k)||decide (mK l g ys[k] < ys[k].floor)):=by
   simp only [sB];rw [List.take_succ_eq_append_getElem hk,List.any_append];simp
  have hjl:=Jp l g (ys.take k);have hjt:(ys.take k).length=k:=by simp;omega
  obtain ⟨a,ha⟩:=aL (ys[k]);rw [dy hk,<- ha] at hI;simp only [xm,List.all_cons] at hI;rw [<- ha] at hma hnx hnf
  have hA:=cu (gB a l.bs :: dK a g) (fun n hn=>by
   rcases List.mem_cons.1 hn with rfl | hn
   ·exact hor a
   ·exact ku (fun x hx=>n5 (hmm x hx).2) n hn) (by have:=bY (fun x:aX=>x.bG.same a) aX.bV g;simp only [List.length_cons,dK];omega)
  have hF:=th a;have hOa:=hO a;simp only [aH.cells] at hma hF hOa;clear hO;simp only [go_sem,seval,hdk,aG,hma];(with_reducible and_intros)<;>first|exact .dq|omega|skip
  refine aa.pure hOa ?_;simp only [go_sem,seval,aG];refine aC.walk (S:=Unit) g.length [2,3,6,8,10,11,12,13] [64,112,144,176,720,1792] (fun i _=>[(15,.int .i64 i),(14,.ref 1312)]) (fun i _=>[(1312,.own 1 (ints (gB a l.bs :: dK a (g.take i))))]) (fun _ _=>True) () trivial ?_ ?_ ?_
  ·simp only [go_sem,seval]<;>simp [dK,pick,ints]
  ·intro i _ hi hdi hwi _;have hm:=aD (c:=aX.cells) g hi;have hs:ints (dK a (g.take (i+1)))=ints (dK a (g.take i))++_:=fL (fun x:aX=>x.bG.same a) aX.bV hi;have hlen:=bY (fun x:aX=>x.bG.same a) aX.bV (g.take i);have hlt:(g.take i).length=i:=by simp;omega
   have hli:(i:Int) < (g.length:Int):=by omega
   have hlen:(gB a l.bs :: dK a (g.take i)).length<=i+1:=by simp only [List.length_cons,dK];omega
   obtain ⟨x,hx⟩:=aL (g[i]);rw [<- hx] at hs;have hs:ints (gB a l.bs :: dK a (g.take (i+1)))=ints (gB a l.bs :: dK a (g.take i))++(if x.bG.same a then [[.int .i64 x.bV]] else []):=congrArg (fun z:List (List D)=>([D.int .i64 (gB a l.bs)]:List D) :: z) hs;obtain ⟨L,hL⟩:=aL (gB a l.bs :: dK a (g.take i));have hS:Abs.Spec Tryz.prog 152 [] [.agg [.int .i64 x.kind,.int .i64 x.who,.int .i64 x.cur],.agg [.int .i64 a.kind,.int .i64 a.who,.int .i64 a.cur]] [] (.bool (x.bG.same a)):=pq x.bG a;rw [<- hL] at hs;rw [<- hx] at hm;rw [<- hL] at hlen |-;simp only [aX.cells] at hm;simp only [go_sem,seval,aG,hdi,hm,hma];(with_reducible and_intros)<;>first|exact .dq|omega|skip
   refine aa.pure hS ?_;cases hb:x.bG.same a
   ·simp only [hb,fZ,if_false,if_true,List.append_nil] at hs;simp only [go_sem,seval,hwi];refine ah.step () hi trivial ?_;simp only [go_sem,seval,hs]<;>simp
   ·simp only [hb,fZ,if_false,if_true,List.append_nil] at hs;simp only [go_sem,seval,hwi,ay,aG,hm];(with_reducible and_intros)<;>first|exact .dq|omega|skip
    refine ah.step () hi trivial ?_;simp only [go_sem,seval,hs]<;>simp
  ·intro _ hdx _;simp only [go_sem,seval,hdx,aG,List.take_length];refine aa.gen [] [] true (by simp) ?_;simp only [go_sem,seval];refine aY.intro hA ?_;have hS:az (gB a l.bs :: dK a g)=mK l g a:=rfl;have hn:bP (mK l g a)=true->addN (gB a l.bs :: dK a g)=mK l g a:=fun h=>by simp [addN,hS,h]
   rw [hS];cases b1:bP (mK l g a)
   ·rw [b1,Bool.false_and] at hI;have:xm l g ys=false:=hI.symm;simp only [go_sem,seval,b1,this]<;>simp
   rw [b1,Bool.true_and] at hI;rw [hn b1];cases b3:sB l g (ys.take k)
   case true =>
    rw [b3,Bool.true_or] at hnf;cases b2:mK l g a==0
    ·simp only [qi,b2] at hnx;simp only [go_sem,seval,b1,b3,bne,b2,hwk,hma,aG];(with_reducible and_intros)<;>first|exact .dq|omega|skip
     refine ah.step () hk hI ?_;simp only [go_sem,seval,hnx,hnf]<;>simp
    ·simp only [qi,b2] at hnx;simp only [go_sem,seval,b1,b3,bne,b2,hwk];refine ah.step () hk hI ?_;simp only [go_sem,seval,hnx,hnf]<;>simp
   rw [b3,Bool.false_or] at hnf;simp only [go_sem,seval,b1,b3,bne,hma,aG];(with_reducible and_intros)<;>first|exact .dq|omega|skip
   refine aa.pure hF ?_;cases b2:mK l g a==0
   ·simp only [qi,b2] at hnx;simp only [go_sem,seval,b2,hwk,hma,aG,bne];(with_reducible and_intros)<;>first|exact .dq|omega|skip
    refine ah.step () hk hI ?_;simp only [go_sem,seval,hnx,hnf]<;>simp
   ·simp only [qi,b2] at hnx;simp only [go_sem,seval,b2,bne,hwk];refine ah.step () hk hI ?_;simp only [go_sem,seval,hnx,hnf]<;>simp
 ·intro _ hdx hI;rw [List.drop_length] at hI;have:xm l g ys=true:=hI.symm;cases b5:sB l g ys
  ·simp only [go_sem,seval,hdx,aG,this,List.take_length,b5]<;>simp
  ·simp only [go_sem,seval,hdx,aG,this,List.take_length,b5]<;>simp
theorem pR (l:bq) (id:Int) (g:List aX) (hl:l.bs.length < 2 ^ 30) (hr:∀ b∈l.bs,b.cE) (hg:g.length < 2 ^ 29):Abs.Spec Tryz.prog 126 [] [.agg l.cells,.int .i64 id,.sl 4 (g.map aX.cells)] [] (.bH [.agg (gG l id g).cells,.int .i64 (eH l id g)]):=by
 refine Spec.frozen (Gp l id g hl hr hg) [0] rfl ?_;intro r;rcases r with _ | r<;>rfl
theorem mG (r:aq) (h:r.jh):Abs.Spec Tryz.prog 10 [] [.agg r.cells] [] (.agg r.cells):=by
 refine Spec.frozen (l6 r h) [0,1,2] rfl ?_;intro r;rcases r with _ | _ | _ | r<;>rfl
theorem Dl (r:aq) (h:r.jh):Abs.Spec Tryz.prog 10 [] [.agg r.cells] [.undef,.own 12 (r.ns.map au.cells)] (.agg [.sl 3 (r.ms.map ak.cells),.ref 1,.sl 4 (r.xs.map av.cells)]):=by
 refine Spec.frozen (l6 r h) [0,2] rfl ?_;intro r;rcases r with _ | _ | _ | r<;>rfl
theorem KS (r:aq) (h:r.jh):Abs.Spec Tryz.prog 10 [] [.agg r.cells] [.own 3 (r.ms.map ak.cells)] (.agg [.ref 0,.sl 12 (r.ns.map au.cells),.sl 4 (r.xs.map av.cells)]):=by
 refine Spec.frozen (l6 r h) [1,2] rfl ?_;intro r;rcases r with _ | _ | _ | r<;>rfl
def oo {B:Type} (f:Nat->List B) (i:Nat):List B:=(List.range i).flatMap f
theorem iM {B:Type} (f:Nat->List B) (i:Nat):oo f (i+1)=oo f i++f i:=tT f i
theorem kF {B:Type} {f:Nat->List B} {m:Nat} (h:∀ a,(f a).length<=m) (i:Nat):(oo f i).length<=m*i:=yp h i
theorem kD {B:Type} (f:Nat->List B):oo f 0=[]:=rfl
def aq.none:aq:=⟨[],[],[]⟩
def iV (r:aq) (w n:Int):Int:=if r.okB then (if ak.ok ⟨w,1,n⟩ then (if eI r w then 11 else 0) else 3) else 14
def Gj (r:aq) (m:ak) (i:Nat):List ak:=(if eI r ((i:Int)+1) then [ff r ((i:Int)+1)] else [])++(if (i:Int)+1==m.no then [m] else [])
def jJ (r:aq) (w n:Int):aq:=if iV r w n=0 then ⟨oo (Gj r ⟨w,1,n⟩) 16,r.ns,r.xs⟩ else .none
theorem Rk (r:aq) (m:ak) (i:Nat):(Gj r m i).length<=2:=by unfold Gj;split<;>split<;>simp
theorem GF (r:aq) (w n:Int) (h:r.jh):Abs.Spec Tryz.prog 50 [] [.agg r.cells,.int .i64 w,.int .i64 n] [.own 3 ((jJ r w n).ms.map ak.cells)] (.bH [.agg [.ref 0,.sl 12 ((jJ r w n).ns.map au.cells),.sl 4 ((jJ r w n).xs.map av.cells)],.int .i64 (iV r w n)]):=by
 have c1:=dJ r h.small;have c2:=sA ⟨w,1,n⟩;have c3:=fun n=>ck r n h.small
 have c4:=mG r h;simp only [aq.cells] at c1 c3 c4 |-;simp only [ak.cells] at c2;refine bg 64 3 [.cell 6 29,.tmp 7] mixed Tryz.func50 ?_;simp only [go_sem,seval];(with_reducible and_intros)<;>first|exact .dq|omega|skip
 refine aa.pure c1 ?_;cases b1:r.okB
 ·have e:iV r w n=14:=by simp [iV,b1]
  simp only [go_sem,seval,jJ,e]<;>simp [aq.none]
 simp only [go_sem,seval];(with_reducible and_intros)<;>first|exact .dq|omega|skip
 refine aa.pure c2 ?_;cases b2:ak.ok ⟨w,1,n⟩
 ·have e:iV r w n=3:=by simp [iV,b1,b2]
  simp only [go_sem,seval,jJ,e]<;>simp [aq.none]
 have c3w:=c3 w;obtain ⟨g,hg⟩:=aL (ff r w);rw [<- hg] at c3w;simp only [ak.cells] at c3w;simp only [go_sem,seval];(with_reducible and_intros)<;>first|exact .dq|omega|skip
 refine aa.pure c3w ?_;cases b3:eI r w
 case true =>
  have e:iV r w n=11:=by simp [iV,b1,b2,b3]
  simp only [go_sem,seval,jJ,e,b3]<;>simp [aq.none]
 have e:iV r w n=0:=by simp [iV,b1,b2,b3]
 simp only [go_sem,seval,jJ,e,b3];(with_reducible and_intros)<;>first|exact .dq|omega|skip
 refine aa.pure c4 ?_;clear c1 c2 c4 c3w hg;simp only [go_sem,seval];(with_reducible and_intros)<;>first|exact .dq|omega|skip
 refine aC.walk (S:=Unit) 16 [1,3,6,8,11] [64,112,144] (fun i _=>[(12,.int .i64 ((i:Int)+1))]) (fun i _=>[(192,.box [.ref 992,.sl 12 (r.ns.map au.cells),.sl 4 (r.xs.map av.cells)]),(992,.own 3 ((oo (Gj r ⟨w,1,n⟩) i).map ak.cells))]) (fun _ _=>True) () trivial ?_ ?_ ?_
 ·simp only [go_sem,seval,kD]<;>simp
 ·intro i _ hi _ _ _;have hd:decide ((i:Int)+1<=16)=true:=decide_eq_true (by omega);have hw:IntKind.wrap .i64 ((i:Int)+1+1)=((i+1:Nat):Int)+1:=by rw [bz (by omega) (by omega)];omega
  have hs:=iM (Gj r ⟨w,1,n⟩) i;have hl:=kF (Rk r ⟨w,1,n⟩) i;obtain ⟨L,hL⟩:=aL (oo (Gj r ⟨w,1,n⟩) i);obtain ⟨k,hk⟩:=aL ((i:Int)+1);have c3k:=c3 k;obtain ⟨g,hg⟩:=aL (ff r k);rw [<- hL] at hs hl |-;simp only [Gj,<- hk] at hs;rw [<- hg] at c3k hs;rw [<- hk] at hd hw |-;simp only [ak.cells] at c3k;clear c3 hL;simp only [go_sem,seval,hd];(with_reducible and_intros)<;>first|exact .dq|omega|skip
  refine aa.pure c3k ?_
  cases q1:eI r k<;>cases q2:k==w<;>(
   simp only [q1,q2] at hs;simp only [go_sem,seval,q1,q2,hw,aG,List.length_append];(with_reducible and_intros)<;>first|exact .dq|omega|skip
   try refine ah.step () hi trivial ?_
   try simp only [go_sem,seval,hs])
  all_goals simp
 ·intro _ _ _;simp only [go_sem,seval]<;>simp
theorem DF (r:aq) (w n:Int) (h:r.jh):Abs.Spec Tryz.prog 50 [] [.agg r.cells,.int .i64 w,.int .i64 n] [] (.bH [.agg (jJ r w n).cells,.int .i64 (iV r w n)]):=by
 refine Spec.frozen (GF r w n h) [0] rfl ?_;intro r;rcases r with _ | r<;>rfl
def au.bare (i:au):au:={ i with set:=0,aR:=0 }
def mo (r:aq) (i:au):Int:=if r.okB then (if i.bare.ok then (if aZ r i.no then 11 else 0) else 3) else 14
def D4 (r:aq) (m:au) (i:Nat):List au:=(if aZ r ((i:Int)+1) then [aT r ((i:Int)+1)] else [])++(if (i:Int)+1==m.no then [m] else [])
def nM (r:aq) (i:au):aq:=if mo r i=0 then ⟨r.ms,oo (D4 r i.bare) 8,r.xs⟩ else .none
theorem PZ (r:aq) (m:au) (i:Nat):(D4 r m i).length<=2:=by unfold D4;split<;>split<;>simp
theorem JY (r:aq) (x:au) (h:r.jh):Abs.Spec Tryz.prog 51 [] [.agg r.cells,.agg x.cells] [.own 12 ((nM r x).ns.map au.cells)] (.bH [.agg [.sl 3 ((nM r x).ms.map ak.cells),.ref 0,.sl 4 ((nM r x).xs.map av.cells)],.int .i64 (mo r x)]):=by
 have c1:=dJ r h.small;have c2:=rT x.bare;have c3:=fun n=>dc r n h.small
 have c4:=mG r h;simp only [aq.cells] at c1 c3 c4 |-;simp only [au.cells,au.bare] at c2;refine bg 62 2 [.cell 4 29,.tmp 5] mixed Tryz.func51 ?_;simp only [go_sem,seval,au.cells];(with_reducible and_intros)<;>first|exact .dq|omega|skip
 refine aa.pure c1 ?_;cases b1:r.okB
 ·have e:mo r x=14:=by simp [mo,b1]
  simp only [go_sem,seval,nM,e]<;>simp [aq.none]
 simp only [go_sem,seval];(with_reducible and_intros)<;>first|exact .dq|omega|skip
 refine aa.pure c2 ?_;cases b2:x.bare.ok
 ·have e:mo r x=3:=by simp [mo,b1,b2]
  simp only [au.bare] at b2;simp only [go_sem,seval,b2,nM,e]<;>simp [aq.none]
 have b2':=b2;simp only [au.bare] at b2';have c3w:=c3 x.no;obtain ⟨g,hg⟩:=aL (aT r x.no);rw [<- hg] at c3w;simp only [au.cells] at c3w;simp only [go_sem,seval,b2'];(with_reducible and_intros)<;>first|exact .dq|omega|skip
 refine aa.pure c3w ?_;cases b3:aZ r x.no
 case true =>
  have e:mo r x=11:=by simp [mo,b1,b2,b3]
  simp only [go_sem,seval,nM,e,b3]<;>simp [aq.none]
 have e:mo r x=0:=by simp [mo,b1,b2,b3]
 simp only [go_sem,seval,nM,e,b3];(with_reducible and_intros)<;>first|exact .dq|omega|skip
 refine aa.pure c4 ?_;clear c1 c2 c4 c3w hg;simp only [go_sem,seval];(with_reducible and_intros)<;>first|exact .dq|omega|skip
 refine aC.walk (S:=Unit) 8 [2,3,4,8] [48,64,80] (fun i _=>[(9,.int .i64 ((i:Int)+1))]) (fun i _=>[(144,.box [.sl 3 (r.ms.map ak.cells),.ref 960,.sl 4 (r.xs.map av.cells)]),(960,.own 12 ((oo (D4 r x.bare) i).map au.cells))]) (fun _ _=>True) () trivial ?_ ?_ ?_
 ·simp only [go_sem,seval,kD]<;>simp
 ·intro i _ hi _ _ _;have hd:decide ((i:Int)+1<=8)=true:=decide_eq_true (by omega);have hw:IntKind.wrap .i64 ((i:Int)+1+1)=((i+1:Nat):Int)+1:=by rw [bz (by omega) (by omega)];omega
  have hs:=iM (D4 r x.bare) i;have hl:=kF (PZ r x.bare) i;obtain ⟨L,hL⟩:=aL (oo (D4 r x.bare) i);obtain ⟨k,hk⟩:=aL ((i:Int)+1);have c3k:=c3 k;obtain ⟨g,hg⟩:=aL (aT r k);rw [<- hL] at hs hl |-;simp only [D4,<- hk,au.bare] at hs;rw [<- hg] at c3k hs;rw [<- hk] at hd hw |-;simp only [au.cells] at c3k;clear c3 hL;simp only [go_sem,seval,hd];(with_reducible and_intros)<;>first|exact .dq|omega|skip
  refine aa.pure c3k ?_
  cases q1:aZ r k<;>cases q2:k==x.no<;>(
   simp only [q1,q2] at hs;simp only [go_sem,seval,q1,q2,hw,aG,List.length_append];(with_reducible and_intros)<;>first|exact .dq|omega|skip
   try refine ah.step () hi trivial ?_
   try simp only [go_sem,seval,hs,au.bare,au.cells])
  all_goals simp [au.cells]
 ·intro _ _ _;simp only [go_sem,seval]<;>simp
theorem Hi (r:aq) (x:au) (h:r.jh):Abs.Spec Tryz.prog 51 [] [.agg r.cells,.agg x.cells] [] (.bH [.agg (nM r x).cells,.int .i64 (mo r x)]):=by
 refine Spec.frozen (JY r x h) [0] rfl ?_;intro r;rcases r with _ | r<;>rfl
def lB (r:aq) (n:Int):av:=eR av.a n ⟨0,0,0,0⟩ r.xs
def mz (r:aq) (a:av):Int:=if r.okB then (if a.ok&&!(ju r a.a&&!((lB r a.a).b==a.b)) then 0 else 3) else 14
def GU (r:aq) (a:av) (i:Nat):List av:=if (i:Int)+1==a.a then [a] else if ju r ((i:Int)+1) then [lB r ((i:Int)+1)] else []
def nQ (r:aq) (a:av):aq:=if mz r a=0 then ⟨r.ms,r.ns,oo (GU r a) 6⟩ else .none
theorem Qs (r:aq) (m:av) (i:Nat):(GU r m i).length<=1:=by
 unfold GU;split
 ·simp
 ·split<;>simp
theorem JV (r:aq) (a:av) (h:r.jh):Abs.Spec Tryz.prog 52 [] [.agg r.cells,.agg a.cells] [.own 4 ((nQ r a).xs.map av.cells)] (.bH [.agg [.sl 3 ((nQ r a).ms.map ak.cells),.sl 12 ((nQ r a).ns.map au.cells),.ref 0],.int .i64 (mz r a)]):=by
 have c1:=dJ r h.small;have c2:=pg a;have c3:∀ n,Abs.Spec Tryz.prog 118 [] [.agg r.cells,.int .i64 n] [] (.bH [.agg (lB r n).cells,.bool (ju r n)]):=fun n=>kn r n h.small
 have c4:=mG r h;simp only [aq.cells] at c1 c3 c4 |-;simp only [av.cells] at c2;have c3w:=c3 a.a;obtain ⟨g,hg⟩:=aL (lB r a.a);rw [<- hg] at c3w;simp only [av.cells] at c3w;refine bg 68 2 [.cell 4 29,.tmp 5] mixed Tryz.func52 ?_;simp only [go_sem,seval,av.cells];(with_reducible and_intros)<;>first|exact .dq|omega|skip
 refine aa.pure c1 ?_;cases b1:r.okB
 ·have e:mz r a=14:=by simp [mz,b1]
  simp only [go_sem,seval,nQ,e]<;>simp [aq.none]
 simp only [go_sem,seval];(with_reducible and_intros)<;>first|exact .dq|omega|skip
 refine aa.pure c3w ?_;simp only [go_sem,seval];(with_reducible and_intros)<;>first|exact .dq|omega|skip
 refine aa.pure c2 ?_;cases b2:a.ok
 ·have e:mz r a=3:=by simp [mz,b1,b2]
  simp only [go_sem,seval,nQ,e]<;>simp [aq.none]
 cases b3:ju r a.a&&!(g.b==a.b)
 case true =>
  have e:mz r a=3:=by simp only [mz,b1,b2,<- hg,b3];rfl
  simp only [bW,Bool.not_eq_true'] at b3;simp only [go_sem,seval,nQ,e,b3.1,b3.2,bne,Bool.not_false]<;>simp [aq.none]
 have e:mz r a=0:=by simp only [mz,b1,b2,<- hg,b3];rfl
 have hfin:∀ {Q:Prop},Q->Q:=fun q=>q
 cases q1:ju r a.a<;>cases q2:g.b==a.b<;>(try (rw [q1,q2] at b3;exact absurd b3 (by decide)))
 all_goals simp only [go_sem,seval,nQ,e,q1,q2,bne]
 all_goals (with_reducible and_intros)<;>first|exact .dq|omega|skip
 all_goals refine aa.pure c4 ?_
 all_goals clear c1 c2 c4 c3w hg q1 q2 b3
 all_goals simp only [go_sem,seval]
 all_goals (with_reducible and_intros)<;>first|exact .dq|omega|skip
 all_goals refine aC.walk (S:=Unit) 6 [2,3,4,8] [48,64,80] (fun i _=>[(9,.int .i64 ((i:Int)+1))]) (fun i _=>[(144,.box [.sl 3 (r.ms.map ak.cells),.sl 12 (r.ns.map au.cells),.ref 1056]),(1056,.own 4 ((oo (GU r a) i).map av.cells))]) (fun _ _=>True) () trivial ?_ ?_ ?_
 all_goals try (simp only [go_sem,seval,kD]<;>simp;done)
 all_goals
  intro i _ hi _ _ _;have hd:decide ((i:Int)+1<=6)=true:=decide_eq_true (by omega);have hw:IntKind.wrap .i64 ((i:Int)+1+1)=((i+1:Nat):Int)+1:=by rw [bz (by omega) (by omega)];omega
  have hs:=iM (GU r a) i;have hl:=kF (Qs r a) i;obtain ⟨L,hL⟩:=aL (oo (GU r a) i);obtain ⟨k,hk⟩:=aL ((i:Int)+1);have c3k:=c3 k;obtain ⟨g,hg⟩:=aL (lB r k);rw [<- hL] at hs hl |-;simp only [GU,<- hk] at hs;rw [<- hg] at c3k hs;rw [<- hk] at hd hw |-;simp only [av.cells] at c3k;clear c3 hL;simp only [go_sem,seval,hd];(with_reducible and_intros)<;>first|exact .dq|omega|skip
  refine aa.pure c3k ?_
  cases q2:k==a.a<;>cases q1:ju r k<;>(
   simp only [q1,q2] at hs;simp only [go_sem,seval,q1,q2,hw,aG,List.length_append];(with_reducible and_intros)<;>first|exact .dq|omega|skip
   try refine ah.step () hi trivial ?_
   try simp only [go_sem,seval,hs])
  all_goals simp
theorem Hy (r:aq) (a:av) (h:r.jh):Abs.Spec Tryz.prog 52 [] [.agg r.cells,.agg a.cells] [] (.bH [.agg (nQ r a).cells,.int .i64 (mz r a)]):=by
 refine Spec.frozen (JV r a h) [0] rfl ?_;intro r;rcases r with _ | r<;>rfl
def ur {A:Type} (no:A->Int) (n:Int) (f:A->A):List A->List A
 | []=>[]
 | x :: r=>if no x=n then f x :: r else x :: ur no n f r
theorem CK {A:Type} {no:A->Int} {n:Int} {f:A->A}:∀ {xs:List A} {i:Nat} (h:i < xs.length),(∀ j (hj:j < xs.length),j < i->no xs[j]≠n)->no xs[i]=n->ur no n f xs=xs.set i (f xs[i])
 | [],i,h,_,_=>by simp at h
 | x :: r,0,h,_,he=>by
  have he:no x=n:=he;simp [ur,he]
 | x :: r,i+1,h,hn,he=>by
  have h0:no x≠n:=hn 0 (by simp) (by omega);have h1:=CK (f:=f) (xs:=r) (i:=i) (by simpa using h) (fun j hj hji=>hn (j+1) (by simpa using hj) (by omega)) he;simp only [ur,if_neg h0,h1,List.getElem_cons_succ,List.set_cons_succ]
theorem Fu {A:Type} {no:A->Int} {n:Int} {xs:List A} {i:Nat} (hI:∀ j (hj:j < xs.length),j < i->no xs[j]≠n) (h:i < xs.length) (hb:(no xs[i]==n)=false):∀ j (hj:j < xs.length),j < i+1->no xs[j]≠n:=by
 intro j hj hji;rcases Nat.lt_or_ge j i with h | h
 ·exact hI j hj h
 ·obtain rfl:j=i:=by omega
  simpa using hb
def uP (r:aq) (n p:Int):Int:=if r.okB then (if aZ r n then (if within p 1 1073741824 then 0 else 3) else 10) else 14
def au.told (p:Int) (x:au):au:={ x with set:=p }
def uC (r:aq) (n p:Int):aq:=if uP r n p=0 then ⟨r.ms,ur au.no n (au.told p) r.ns,r.xs⟩ else .none
theorem J' (r:aq) (n p:Int) (h:r.jh):Abs.Spec Tryz.prog 130 [] [.agg r.cells,.int .i64 n,.int .i64 p] [.own 12 ((uC r n p).ns.map au.cells)] (.bH [.agg [.sl 3 ((uC r n p).ms.map ak.cells),.ref 0,.sl 4 ((uC r n p).xs.map av.cells)],.int .i64 (uP r n p)]):=by
 have c1:=dJ r h.small;have c4:=Dl r h;have c5:=bn p 1 1073741824;have hl:=h.2.1;simp only [aq.cells] at c1 c4 |-;refine bg 43 3 [.cell 6 29,.tmp 7] mixed Tryz.func130 ?_;simp only [go_sem,seval];(with_reducible and_intros)<;>first|exact .dq|omega|skip
 refine aa.pure c1 ?_;cases b1:r.okB
 ·have e:uP r n p=14:=by simp [uP,b1]
  simp only [go_sem,seval,uC,e]<;>simp [aq.none]
 have e:uP r n p=if aZ r n then (if within p 1 1073741824 then 0 else 3) else 10:=by simp [uP,b1]
 simp only [uC];rw [e];clear e c1;simp only [go_sem,seval];(with_reducible and_intros)<;>first|exact .dq|omega|skip
 refine aa.gen [] [] false (by simp) ?_;simp only [go_sem,seval];refine aY.intro c4 ?_;simp only [go_sem,seval];refine aC.walk (S:=Unit) r.ns.length [1,2,6,8] [112,144,257] (fun i _=>[(9,.int .i64 i)]) (fun _ _=>[]) (fun i _=>∀ j (hj:j < r.ns.length),j < i->r.ns[j].no≠n) () (by intros;omega) ?_ ?_ ?_
 ·simp only [go_sem,seval]<;>simp
 ·intro i _ hi hdi hwi hI;have hm:=aD (c:=au.cells) r.ns hi;have hli:(i:Int) < (r.ns.length:Int):=by omega
  obtain ⟨x,hx⟩:=aL (r.ns[i]);have hnext:=Fu hI hi;rw [<- hx] at hm hnext;simp only [au.cells] at hm;simp only [go_sem,seval,aG,hdi,hm];(with_reducible and_intros)<;>first|exact .dq|omega|skip
  cases b2:x.no==n
  ·simp only [go_sem,seval,hwi];refine ah.step () hi (hnext b2) ?_;simp only [go_sem,seval]
  have hxn:r.ns[i].no=n:=by rw [<- hx];simpa using b2
  obtain ⟨g1,g2⟩:=gX (z:=au.zero) hi hI hxn;have hu:=CK (f:=au.told p) hi hI hxn;have e1:aZ r n=true:=by simp [aZ,g2]
  rw [e1];simp only [go_sem,seval];refine aa.pure c5 ?_;cases b3:within p 1 1073741824
  ·simp only [go_sem,seval]<;>simp [aq.none]
  rw [hu,<- hx];simp only [go_sem,seval,aG,hm];(with_reducible and_intros)<;>first|exact .dq|omega|skip
  all_goals simp [au.told,List.map_set]
 ·intro _ hdx hI;obtain ⟨g1,g2⟩:=fS (z:=au.zero) (fun j hj=>hI j hj hj);have e1:aZ r n=false:=by simp [aZ,g2]
  rw [e1];simp only [go_sem,seval,aG,hdx]<;>simp [aq.none]
theorem Gm (r:aq) (n p:Int) (h:r.jh):Abs.Spec Tryz.prog 130 [] [.agg r.cells,.int .i64 n,.int .i64 p] [] (.bH [.agg (uC r n p).cells,.int .i64 (uP r n p)]):=by
 refine Spec.frozen (J' r n p h) [0] rfl ?_;intro r;rcases r with _ | r<;>rfl
def zZ (r:aq) (n p:Int):Int:=if r.okB then (if eI r n then (if within p 1 3 then 0 else 3) else 10) else 14
def ak.put (p:Int) (x:ak):ak:={ x with state:=p }
def lA (r:aq) (n p:Int):aq:=if zZ r n p=0 then ⟨ur ak.no n (ak.put p) r.ms,r.ns,r.xs⟩ else .none
theorem LA (r:aq) (n p:Int) (h:r.jh):Abs.Spec Tryz.prog 144 [] [.agg r.cells,.int .i64 n,.int .i64 p] [.own 3 ((lA r n p).ms.map ak.cells)] (.bH [.agg [.ref 0,.sl 12 ((lA r n p).ns.map au.cells),.sl 4 ((lA r n p).xs.map av.cells)],.int .i64 (zZ r n p)]):=by
 have c1:=dJ r h.small;have c4:=KS r h;have c5:=bn p 1 3;have hl:=h.1;simp only [aq.cells] at c1 c4 |-;refine bg 43 3 [.cell 6 29,.tmp 7] mixed Tryz.func144 ?_;simp only [go_sem,seval];(with_reducible and_intros)<;>first|exact .dq|omega|skip
 refine aa.pure c1 ?_;cases b1:r.okB
 ·have e:zZ r n p=14:=by simp [zZ,b1]
  simp only [go_sem,seval,lA,e]<;>simp [aq.none]
 have e:zZ r n p=if eI r n then (if within p 1 3 then 0 else 3) else 10:=by simp [zZ,b1]
 simp only [lA];rw [e];clear e c1;simp only [go_sem,seval];(with_reducible and_intros)<;>first|exact .dq|omega|skip
 refine aa.gen [] [] false (by simp) ?_;simp only [go_sem,seval];refine aY.intro c4 ?_;simp only [go_sem,seval];refine aC.walk (S:=Unit) r.ms.length [1,2,6,8] [112,144,256] (fun i _=>[(9,.int .i64 i)]) (fun _ _=>[]) (fun i _=>∀ j (hj:j < r.ms.length),j < i->r.ms[j].no≠n) () (by intros;omega) ?_ ?_ ?_
 ·simp only [go_sem,seval]<;>simp
 ·intro i _ hi hdi hwi hI;have hm:=aD (c:=ak.cells) r.ms hi;have hli:(i:Int) < (r.ms.length:Int):=by omega
  obtain ⟨x,hx⟩:=aL (r.ms[i]);have hnext:=Fu hI hi;rw [<- hx] at hm hnext;simp only [ak.cells] at hm;simp only [go_sem,seval,aG,hdi,hm];(with_reducible and_intros)<;>first|exact .dq|omega|skip
  cases b2:x.no==n
  ·simp only [go_sem,seval,hwi];refine ah.step () hi (hnext b2) ?_;simp only [go_sem,seval]
  have hxn:r.ms[i].no=n:=by rw [<- hx];simpa using b2
  obtain ⟨g1,g2⟩:=gX (z:=ak.zero) hi hI hxn;have hu:=CK (f:=ak.put p) hi hI hxn;have e1:eI r n=true:=by simp [eI,g2]
  rw [e1];simp only [go_sem,seval];refine aa.pure c5 ?_;cases b3:within p 1 3
  ·simp only [go_sem,seval]<;>simp [aq.none]
  rw [hu,<- hx];simp only [go_sem,seval,aG,hm];(with_reducible and_intros)<;>first|exact .dq|omega|skip
  all_goals simp [ak.put,List.map_set]
 ·intro _ hdx hI;obtain ⟨g1,g2⟩:=fS (z:=ak.zero) (fun j hj=>hI j hj hj);have e1:eI r n=false:=by simp [eI,g2]
  rw [e1];simp only [go_sem,seval,aG,hdx]<;>simp [aq.none]
theorem y9 (r:aq) (n p:Int) (h:r.jh):Abs.Spec Tryz.prog 144 [] [.agg r.cells,.int .i64 n,.int .i64 p] [] (.bH [.agg (lA r n p).cells,.int .i64 (zZ r n p)]):=by
 refine Spec.frozen (LA r n p h) [0] rfl ?_;intro r;rcases r with _ | r<;>rfl
def oq {A:Type} (f:A->A) (xs:List A) (i:Nat):List A:=(xs.take i).map f++xs.drop i
theorem Fq {A:Type} (f:A->A) (xs:List A):oq f xs 0=xs:=by simp [oq]
theorem Dg {A:Type} (f:A->A) (xs:List A):oq f xs xs.length=xs.map f:=by simp [oq]
theorem sy {A:Type} (f:A->A) (xs:List A) (i:Nat):(oq f xs i).length=xs.length:=by simp [oq];omega
theorem GH {A:Type} (f:A->A) {xs:List A} {i:Nat} (h:i < xs.length):(oq f xs i)[i]'(by rw [sy];exact h)=xs[i]:=by
 have hl:((xs.take i).map f).length=i:=by simp;omega
 simp only [oq];rw [List.getElem_append_right (by omega)];simp [Nat.min_eq_left (Nat.le_of_lt h)]
theorem Bf {A:Type} (f:A->A) {xs:List A} {i:Nat} (h:i < xs.length):(oq f xs i).set i (f xs[i])=oq f xs (i+1):=by
 have hl:((xs.take i).map f).length=i:=by simp;omega
 simp only [oq];rw [List.set_append_right _ _ (by omega),hl,Nat.sub_self,List.drop_eq_getElem_cons h,List.set_cons_zero,List.take_succ_eq_append_getElem h,List.map_append,List.append_assoc];rfl
theorem OV {A:Type} (f:A->A) {xs:List A} {i:Nat} (h:i < xs.length) (hf:f xs[i]=xs[i]):oq f xs (i+1)=oq f xs i:=by
 rw [<- Bf f h,hf]
 conv=>lhs;rw [<- GH f h]
 exact List.set_getElem_self _
def au.pz (x:au):au:=if x.set==0 then x else { x with aR:=x.set,set:=0 }
def IB (r:aq):aq:=⟨r.ms,r.ns.map au.pz,r.xs⟩
theorem IQ (r:aq) (h:r.jh):Abs.Spec Tryz.prog 138 [] [.agg r.cells] [.own 12 (r.ns.map au.pz |>.map au.cells)] (.agg [.sl 3 (r.ms.map ak.cells),.ref 0,.sl 4 (r.xs.map av.cells)]):=by
 have c4:=Dl r h;have hl:=h.2.1;simp only [aq.cells] at c4 |-;refine bg 38 1 [.cell 2 29] mixed Tryz.func138 ?_;simp only [go_sem,seval];(with_reducible and_intros)<;>first|exact .dq|omega|skip
 refine aa.gen [] [] false (by simp) ?_;simp only [go_sem,seval];refine aY.intro c4 ?_;simp only [go_sem,seval];(with_reducible and_intros)<;>first|exact .dq|omega|skip
 refine aC.walk (S:=Unit) r.ns.length [2,3] [48] (fun i _=>[(4,.int .i64 i)]) (fun i _=>[(64,.box [.sl 3 (r.ms.map ak.cells),.ref 368,.sl 4 (r.xs.map av.cells)]),(368,.own 12 ((oq au.pz r.ns i).map au.cells))]) (fun _ _=>True) () trivial ?_ ?_ ?_
 ·simp only [go_sem,seval,Fq]<;>simp
 ·intro i _ hi hdi hwi _;have hlen:=sy au.pz r.ns i;have hi2:i < (oq au.pz r.ns i).length:=by omega
  have hm:=aD (c:=au.cells) (oq au.pz r.ns i) hi2;have hat:=GH au.pz hi;have hset:=Bf au.pz hi;have hsame:=OV au.pz hi;have hli:(i:Int) < (r.ns.length:Int):=by omega
  obtain ⟨x,hx⟩:=aL (r.ns[i]);rw [hat] at hm;rw [<- hx] at hm hset hsame;obtain ⟨M,hM⟩:=aL (oq au.pz r.ns i);rw [<- hM] at hm hset hsame hlen |-;simp only [au.cells] at hm;simp only [go_sem,seval,aG,hlen,hdi,hm];(with_reducible and_intros)<;>first|exact .dq|omega|skip
  cases b2:x.set==0
  ·have hset:M.set i { x with aR:=x.set,set:=0 }=oq au.pz r.ns (i+1):=by rw [<- hset];simp only [au.pz,b2];rfl
   have hsa:∀ Z,((M.map au.cells).set i Z).getD i []=Z:=fun Z=>by simp [hlen,hi]
   simp only [go_sem,seval,bne,b2,aG,hlen,hm,hwi,hsa];(with_reducible and_intros)<;>first|exact .dq|omega|skip
   all_goals first
    | (simp only [List.length_set,aG];omega)
    | (refine ah.step () hi trivial ?_
       simp only [go_sem,seval,<- hset,List.map_set,List.set_set,hsa])
  ·have hsame:=hsame (by simp [au.pz,b2]);simp only [go_sem,seval,bne,b2,hwi];refine ah.step () hi trivial ?_;simp only [go_sem,seval,hsame]
 ·intro _ hdx _;have hlen:=sy au.pz r.ns r.ns.length;simp only [go_sem,seval,aG,hlen,hdx,Dg]
theorem Gs (r:aq) (h:r.jh):Abs.Spec Tryz.prog 138 [] [.agg r.cells] [] (.agg (IB r).cells):=by
 refine Spec.frozen (IQ r h) [0] rfl ?_;intro r;rcases r with _ | r<;>rfl
def mL (r:aq) (ss:List Int):List Int:=pick (fun m:ak=>qF ss m.state) ak.no r.ms
theorem F5 (r:aq) (ss:List Int) (h:r.jh) (hs:ss.length < 2 ^ 30):Abs.Spec Tryz.prog 139 [] [.agg r.cells,.sl 1 (ints ss)] [.own 1 (ints (mL r ss))] (.ref 0):=by
 have hl:=h.1;simp only [aq.cells];refine bg 47 2 [.tmp 4] mixed Tryz.func139 ?_;simp only [go_sem,seval];refine aC.walk (S:=Unit) r.ms.length [1,2] [48] (fun i _=>[(6,.int .i64 i),(5,.ref 736)]) (fun i _=>[(736,.own 1 (ints (pick (fun m:ak=>qF ss m.state) ak.no (r.ms.take i))))]) (fun _ _=>True) () trivial ?_ ?_ ?_
 ·simp only [go_sem,seval]<;>simp [pick,ints]
 ·intro i _ hi hdi hwi _;have hm:=aD (c:=ak.cells) r.ms hi;have hst:=fL (fun m:ak=>qF ss m.state) ak.no hi;have hlen:=bY (fun m:ak=>qF ss m.state) ak.no (r.ms.take i);have hlt:(r.ms.take i).length=i:=by simp;omega
  have hli:(i:Int) < (r.ms.length:Int):=by omega
  obtain ⟨L,hL⟩:=aL (pick (fun m:ak=>qF ss m.state) ak.no (r.ms.take i));obtain ⟨x,hx⟩:=aL (r.ms[i]);rw [<- hx] at hm hst;rw [<- hL] at hst hlen |-;simp only [ak.cells] at hm;simp only [go_sem,seval,aG,hdi,ay];refine aC.walk (S:=Unit) ss.length [1,2,5,6] [48,736] (fun k _=>[(8,.int .i64 k),(7,.bool (qF (ss.take k) x.state))]) (fun _ _=>[]) (fun _ _=>True) () trivial ?_ ?_ ?_
  ·simp only [go_sem,seval]<;>simp [qF]
  ·intro k _ hk hdk hwk _;have hst:=vX ss x.state hk;have hlk:(k:Int) < (ss.length:Int):=by omega
   cases hb:qF (ss.take k) x.state
   ·rw [hb,Bool.false_or] at hst;simp only [go_sem,seval,aG,ay,hdk,ints_at ss hk,hm,hwk];(with_reducible and_intros)<;>first|exact .dq|omega|skip
    refine ah.step () hk trivial ?_;simp only [go_sem,seval,hst]
   ·rw [hb,Bool.true_or] at hst;simp only [go_sem,seval,aG,ay,hdk,ints_at ss hk,hm,hwk];(with_reducible and_intros)<;>first|exact .dq|omega|skip
    refine ah.step () hk trivial ?_;simp only [go_sem,seval,hst]
  ·intro _ hdk _;cases b1:qF ss x.state
   ·rw [b1] at hst;simp only [go_sem,seval,ay,aG,hdk,List.take_length,b1,hwi];(with_reducible and_intros)<;>first|exact .dq|omega|skip
    refine ah.step () hi trivial ?_;simp only [go_sem,seval,hst]<;>simp
   ·rw [b1] at hst;simp only [go_sem,seval,ay,aG,hdk,List.take_length,b1,hm,hwi];(with_reducible and_intros)<;>first|exact .dq|omega|skip
    refine ah.step () hi trivial ?_;simp only [go_sem,seval,hst]<;>simp
 ·intro _ hdx _;simp only [go_sem,seval,ay,aG,hdx,List.take_length,mL]
theorem uD (r:aq) (ss:List Int) (h:r.jh) (hs:ss.length < 2 ^ 30):Abs.Spec Tryz.prog 139 [] [.agg r.cells,.sl 1 (ints ss)] [] (.sl 1 (ints (mL r ss))):=by
 refine Spec.frozen (F5 r ss h hs) [0] rfl ?_;intro r;rcases r with _ | r<;>rfl
def dM (w n:Int) (p:aA):Bool:=p.who==w&&p.inst==n
def posOf (w n:Int):List aA->aA
 | []=>⟨w,n,0,0⟩
 | p :: r=>if dM w n p then p else posOf w n r
theorem nv (b:aF) (w n:Int) (hb:b.small):Abs.Spec Tryz.prog 72 [] [.agg b.cells,.agg [.int .i64 w,.int .i64 n]] [] (.agg (posOf w n b.qs).cells):=by
 obtain ⟨h1,h2⟩:=hb;simp only [aF.cells];refine bg 42 2 [.cell 4 53] mixed Tryz.func72 ?_;simp only [go_sem,seval,aG];refine aC.walk (S:=Unit) b.qs.length [2,3,4] [48,64,80] (fun i _=>[(5,.int .i64 i)]) (fun _ _=>[]) (fun i _=>posOf w n (b.qs.drop i)=posOf w n b.qs) () rfl ?_ ?_ ?_
 ·simp only [go_sem,seval]<;>simp
 ·intro i _ hi hdi hwi hI;have hm:=aD (c:=aA.cells) b.qs hi;have hli:(i:Int) < (b.qs.length:Int):=by omega
  obtain ⟨x,hx⟩:=aL (b.qs[i]);rw [dy hi,<- hx] at hI;rw [<- hx] at hm;simp only [posOf,dM] at hI;simp only [aA.cells] at hm;cases q1:x.who==w
  ·simp only [q1,Bool.false_and,fZ,if_false] at hI;simp only [go_sem,seval,aG,hdi,hm,q1,hwi];(with_reducible and_intros)<;>first|exact .dq|omega|skip
   refine ah.step () hi hI ?_;simp only [go_sem,seval]
  cases q2:x.inst==n
  ·simp only [q1,q2,Bool.and_false,fZ,if_false] at hI;simp only [go_sem,seval,aG,hdi,hm,q1,q2,hwi];(with_reducible and_intros)<;>first|exact .dq|omega|skip
   refine ah.step () hi hI ?_;simp only [go_sem,seval]
  simp only [q1,q2,Bool.and_self,if_true] at hI;rw [<- hI];simp only [go_sem,seval,aG,hdi,hm,q1,q2];(with_reducible and_intros)<;>first|exact .dq|omega|skip
 ·intro _ hdx hI;rw [List.drop_length] at hI;rw [<- hI];simp only [go_sem,seval,aG,hdx,posOf]
def Pe (n:Int) (t:aI):Bool:=t.no==n&&!t.off
def gy (n:Int):List aI->Int
 | []=>-1
 | t :: r=>if Pe n t then 0 else if gy n r < 0 then -1 else gy n r+1
theorem Fa {n:Int}:∀ {xs:List aI} {i:Nat} (h:i < xs.length),(∀ j (hj:j < xs.length),j < i->Pe n xs[j]=false)->Pe n xs[i]=true->gy n xs=i
 | [],i,h,_,_=>by simp at h
 | x :: r,0,h,_,he=>by
  have he:Pe n x=true:=he;simp [gy,he]
 | x :: r,i+1,h,hn,he=>by
  have h0:Pe n x=false:=hn 0 (by simp) (by omega);have h2:=Fa (xs:=r) (i:=i) (by simpa using h) (fun j hj hji=>hn (j+1) (by simpa using hj) (by omega)) he;simp only [gy,h0,h2];rw [if_neg (by simp),if_neg (by omega)];omega
theorem Ci {n:Int}:∀ {xs:List aI},(∀ j (hj:j < xs.length),Pe n xs[j]=false)->gy n xs = -1
 | [],_=>rfl
 | x :: r,hn=>by
  have h0:Pe n x=false:=hn 0 (by simp);have h2:=Ci (xs:=r) (fun j hj=>hn (j+1) (by simpa using hj));simp [gy,h0,h2]
theorem qI (b:aF) (n:Int) (hb:b.small):Abs.Spec Tryz.prog 131 [] [.agg b.cells,.int .i64 n] [] (.int .i64 (gy n b.ts)):=by
 obtain ⟨h1,h2⟩:=hb;simp only [aF.cells];refine bg 31 2 [.tmp 4] mixed Tryz.func131 ?_;simp only [go_sem,seval,aG];refine aC.walk (S:=Unit) b.ts.length [1,2] [48] (fun i _=>[(5,.int .i64 i)]) (fun _ _=>[]) (fun i _=>∀ j (hj:j < b.ts.length),j < i->Pe n b.ts[j]=false) () (by intros;omega) ?_ ?_ ?_
 ·simp only [go_sem,seval]<;>simp
 ·intro i _ hi hdi hwi hI;have hm:=aD (c:=aI.cells) b.ts hi;have hli:(i:Int) < (b.ts.length:Int):=by omega
  have hhit:=Fa hi hI
  have hnext:Pe n b.ts[i]=false->∀ j (hj:j < b.ts.length),j < i+1->Pe n b.ts[j]=false:=fun h0 j hj hji=>by
   rcases Nat.lt_or_ge j i with h | h
   ·exact hI j hj h
   ·obtain rfl:j=i:=by omega
    exact h0
  obtain ⟨x,hx⟩:=aL (b.ts[i]);rw [<- hx] at hm hhit hnext;simp only [Pe] at hhit hnext;simp only [aI.cells] at hm;cases q1:x.no==n
  ·simp only [go_sem,seval,aG,hdi,hm,q1,hwi];(with_reducible and_intros)<;>first|exact .dq|omega|skip
   refine ah.step () hi (hnext (by simp [q1])) ?_;simp only [go_sem,seval]
  cases q2:x.off
  case true =>
   simp only [go_sem,seval,aG,hdi,hm,q1,q2,hwi];(with_reducible and_intros)<;>first|exact .dq|omega|skip
   refine ah.step () hi (hnext (by simp [q2])) ?_;simp only [go_sem,seval]
  simp only [go_sem,seval,aG,hdi,hm,q1,q2,hhit (by simp [q1,q2])];(with_reducible and_intros)<;>first|exact .dq|omega|skip
 ·intro _ hdx hI;simp only [go_sem,seval,aG,hdx,Ci (fun j hj=>hI j hj hj)]
theorem uA (x:au):Abs.Spec Tryz.prog 188 [] [.agg x.cells] [] (.bH [.int .i64 (if x.set==0 then x.aR else x.set),.bool (!(x.set==0&&x.aR==0))]):=by
 simp only [au.cells];refine bg 14 1 [.tmp 2,.tmp 3] mixed Tryz.func188 ?_;cases q1:x.set==0<;>cases q2:x.aR==0<;>simp only [go_sem,seval,bne,q1,q2,Bool.false_and,Bool.and_self,Bool.and_false,Bool.not_true,Bool.not_false]
 all_goals (with_reducible and_intros)<;>first|exact .dq|omega|skip
theorem yU (a b:Int) (ha:eT a) (hb:eT b):Abs.Spec Tryz.prog 190 [] [.int .i64 a,.int .i64 b] [] (.bH [.int .i64 (if bP (a*b) then a*b else 0),.bool (bP (a*b))]):=by
 have h1:=lS a b ha hb;have h2:=jV (a*b);simp only [wd] at h1 h2;refine bg 12 2 [.tmp 4,.tmp 5] mixed Tryz.func190 ?_;simp only [go_sem,seval];(with_reducible and_intros)<;>first|exact .dq|omega|skip
 refine aa.pure h1 ?_;simp only [go_sem,seval];(with_reducible and_intros)<;>first|exact .dq|omega|skip
 refine aa.pure h2 ?_;simp only [go_sem,seval]
def sizedB (t:aI):Bool:=within t.aV 1 1048576&&within t.aR 1 1073741824
def vC (r:aq) (t:aI):Int:=if r.okB then (if sizedB t then (if aZ r t.inst&&(eI r t.fX&&eI r t.dU) then (if t.fX==t.dU then 16 else if bB r t.fX==1&&bB r t.dU==1 then 0 else 14) else 10) else 3) else 14
theorem DX (r:aq) (t:aI) (h:r.jh):Abs.Spec Tryz.prog 128 [] [.agg r.cells,.agg t.cells] [] (.int .i64 (vC r t)):=by
 have c1:=dJ r h.small;have c2:Abs.Spec Tryz.prog 179 [] [.agg t.cells] [] (.bool (sizedB t)):=pP t;have c3:=dc r t.inst h.small;have c4:=ck r t.fX h.small;have c5:=ck r t.dU h.small;obtain ⟨gi,hgi⟩:∃ g,g=aT r t.inst:=⟨_,rfl⟩
 obtain ⟨gb,hgb⟩:∃ g,g=ff r t.fX:=⟨_,rfl⟩
 obtain ⟨gs,hgs⟩:∃ g,g=ff r t.dU:=⟨_,rfl⟩
 have e:vC r t=if r.okB then (if sizedB t then (if aZ r t.inst&&(eI r t.fX&&eI r t.dU) then (if t.fX==t.dU then 16 else if gb.state==1&&gs.state==1 then 0 else 14) else 10) else 3) else 14:=by rw [hgb,hgs];rfl
 rw [e];rw [<- hgi] at c3;rw [<- hgb] at c4;rw [<- hgs] at c5;clear e hgi hgb hgs;simp only [aq.cells,au.cells,ak.cells,aI.cells] at *;refine bg 61 2 [.tmp 4] mixed Tryz.func128 ?_;simp only [go_sem,seval];(with_reducible and_intros)<;>first|exact .dq|omega|skip
 refine aa.pure c1 ?_;cases b1:r.okB
 ·simp only [go_sem,seval]
 simp only [go_sem,seval];(with_reducible and_intros)<;>first|exact .dq|omega|skip
 refine aa.pure c2 ?_;cases b2:sizedB t
 ·simp only [go_sem,seval]
 simp only [go_sem,seval];(with_reducible and_intros)<;>first|exact .dq|omega|skip
 refine aa.pure c3 ?_;simp only [go_sem,seval];(with_reducible and_intros)<;>first|exact .dq|omega|skip
 refine aa.pure c4 ?_;simp only [go_sem,seval];(with_reducible and_intros)<;>first|exact .dq|omega|skip
 refine aa.pure c5 ?_;clear c1 c2 c3 c4 c5;cases q1:aZ r t.inst<;>simp only [go_sem,seval,q1,Bool.false_and,Bool.true_and]<;>(with_reducible and_intros)<;>first|exact .dq|omega|skip
 cases q2:eI r t.fX<;>simp only [go_sem,seval,q1,q2,Bool.false_and,Bool.true_and]<;>(with_reducible and_intros)<;>first|exact .dq|omega|skip
 cases q3:eI r t.dU<;>simp only [go_sem,seval,q1,q2,q3]<;>(with_reducible and_intros)<;>first|exact .dq|omega|skip
 cases q4:t.fX==t.dU<;>simp only [go_sem,seval,q4]<;>(with_reducible and_intros)<;>first|exact .dq|omega|skip
 cases q5:gb.state==1<;>simp only [go_sem,seval,bne,q5,Bool.false_and,Bool.true_and]<;>(with_reducible and_intros)<;>first|exact .dq|omega|skip
 cases q6:gs.state==1<;>simp only [go_sem,seval,bne,q6]<;>(with_reducible and_intros)<;>first|exact .dq|omega|skip
def OU (t:aI) (back:Bool):Int:=if back then -t.aV else t.aV
def fV (t:aI) (back:Bool):List aA:=if sizedB t then [⟨t.fX,t.inst,OU t back,OU t back*t.aR⟩,⟨t.dU,t.inst,-OU t back,-OU t back*t.aR⟩] else []
theorem D3 (t:aI) (back:Bool):Abs.Spec Tryz.prog 183 [] [.agg t.cells,.bool back] [.own 4 ((fV t back).map aA.cells)] (.ref 0):=by
 have c2:Abs.Spec Tryz.prog 179 [] [.agg t.cells] [] (.bool (sizedB t)):=pP t;simp only [aI.cells] at *;refine bg 39 2 [.tmp 4] mixed Tryz.func183 ?_;simp only [go_sem,seval];(with_reducible and_intros)<;>first|exact .dq|omega|skip
 refine aa.pure c2 ?_;cases b2:sizedB t
 ·simp only [go_sem,seval,fV,b2]<;>simp
 have hz:=b2;simp only [sizedB,within,bW,decide_eq_true_eq] at hz;obtain ⟨⟨a1,a2⟩,a3,a4⟩:=hz;cases back
 ·have m1:=eU (a:=t.aV) (b:=t.aR) (A:=1048576) (B:=1073741824) (by omega) (by omega);have m2:=eU (a:=-t.aV) (b:=t.aR) (A:=1048576) (B:=1073741824) (by omega) (by omega);have w1:IntKind.wrap .i64 (0-t.aV) = -t.aV:=by rw [bz (by omega) (by omega)];omega
  have w2:IntKind.wrap .i64 (t.aV*t.aR)=t.aV*t.aR:=bz (by omega) (by omega);have w3:IntKind.wrap .i64 (-t.aV*t.aR) = -t.aV*t.aR:=bz (by omega) (by omega);simp only [go_sem,seval,w1,w2,w3,fV,b2,OU]<;>simp
 ·have m1:=eU (a:=-t.aV) (b:=t.aR) (A:=1048576) (B:=1073741824) (by omega) (by omega);have m2:=eU (a:=t.aV) (b:=t.aR) (A:=1048576) (B:=1073741824) (by omega) (by omega);have w1:IntKind.wrap .i64 (0-t.aV) = -t.aV:=by rw [bz (by omega) (by omega)];omega
  have w0:IntKind.wrap .i64 (0 - -t.aV) = - -t.aV:=by rw [bz (by omega) (by omega)];omega
  have w2:IntKind.wrap .i64 (-t.aV*t.aR) = -t.aV*t.aR:=bz (by omega) (by omega);have hn:- -t.aV=t.aV:=by omega
  have w3:IntKind.wrap .i64 (- -t.aV*t.aR) = - -t.aV*t.aR:=by rw [hn];exact bz (by omega) (by omega)
  simp only [go_sem,seval,w1,w0,w2,w3,fV,b2,OU]<;>simp
theorem tE (t:aI) (back:Bool):Abs.Spec Tryz.prog 183 [] [.agg t.cells,.bool back] [] (.sl 4 ((fV t back).map aA.cells)):=by
 refine Spec.frozen (D3 t back) [0] rfl ?_;intro r;rcases r with _ | r<;>rfl
theorem BS (a b c:Int) (ha:eT a) (hb:eT (b*c)):Abs.Spec Tryz.prog 218 [] [.int .i64 a,.int .i64 b,.int .i64 c] [] (.agg (wd (a*(b*c)))):=by
 have h1:=lS a (b*c) ha hb;have w:IntKind.wrap .i64 (b*c)=b*c:=bz hb.1 (by have:=hb.2;omega);simp only [wd] at h1 |-;refine bg 12 3 [.cell 6 128] mixed Tryz.func218 ?_;simp only [go_sem,seval,w];(with_reducible and_intros)<;>first|exact .dq|omega|skip
 refine aa.pure h1 ?_;simp only [go_sem,seval]
def gM (p:aA) (m pr:Int):Int:=p.aV*(pr*m) + -p.cost*m
theorem uT (p:aA) (m pr:Int) (hq:eT p.aV) (hc:bP p.cost=true) (hm:0<=m/\m<=1024) (hp:0<=pr/\pr<=1073741824):Abs.Spec Tryz.prog 189 [] [.agg p.cells,.int .i64 m,.int .i64 pr] [] (.bH [.int .i64 (if bP (gM p m pr) then gM p m pr else 0),.bool (bP (gM p m pr))]):=by
 have k1:=eU (a:=pr) (b:=m) (A:=1073741824) (B:=1024) (by omega) (by omega);have hcr:=cm.1 hc;have k0:0<=pr*m:=Int.mul_nonneg hp.1 hm.1;have k2:=eU (a:=p.aV) (b:=pr*m) (A:=9223372036854775808) (B:=1099511627776) (by have:=hq.1;have:=hq.2;omega) (by omega);have k3:=eU (a:=-p.cost) (b:=m) (A:=4611686018427387904) (B:=1024) (by omega) (by omega);have h1:=BS p.aV pr m hq ⟨by omega,by omega⟩;have h2:=lS (-p.cost) m ⟨by omega,by omega⟩ ⟨by omega,by omega⟩;have i1:oY (p.aV*(pr*m))=true:=by simp only [oY,bW,decide_eq_true_eq];omega
 have i2:oY (-p.cost*m)=true:=by simp only [oY,bW,decide_eq_true_eq];omega
 have h3:=jO [p.aV*(pr*m),-p.cost*m] (by simp) (by intro n hn;simp only [List.mem_cons,List.not_mem_nil,or_false] at hn;rcases hn with rfl | rfl<;>assumption);have es:az [p.aV*(pr*m),-p.cost*m]=gM p m pr:=by simp [az,gM]
 have i3:oY (gM p m pr)=true:=by
  have hw:gM p m pr=p.aV*(pr*m) + -p.cost*m:=rfl;rw [hw];clear hw es h3 h2 h1;simp only [oY,bW,decide_eq_true_eq];constructor<;>omega
 rw [es,i3,if_pos rfl] at h3;have h4:=jV (gM p m pr);have w:IntKind.wrap .i64 (0-p.cost) = -p.cost:=by rw [bz (by omega) (by omega)];omega
 simp only [kf,wd,List.map_cons,List.map_nil] at h1 h2 h3 h4;simp only [aA.cells];obtain ⟨A,hA⟩:=aL (p.aV*(pr*m));obtain ⟨B,hB⟩:=aL (-p.cost*m);obtain ⟨C,hC⟩:=aL (gM p m pr);rw [<- hA] at h1 h3;rw [<- hB] at h2 h3;rw [<- hC] at h3 h4 |-;clear hA hB hC k1 k0 k2 k3 i1 i2 es i3;refine bg 31 3 [.tmp 6,.tmp 7] mixed Tryz.func189 ?_;simp only [go_sem,seval];(with_reducible and_intros)<;>first|exact .dq|omega|skip
 refine aa.pure h1 ?_;simp only [go_sem,seval,w];(with_reducible and_intros)<;>first|exact .dq|omega|skip
 refine aa.pure h2 ?_;simp only [go_sem,seval];(with_reducible and_intros)<;>first|exact .dq|omega|skip
 refine aa.gen [] [] true (by simp) ?_;simp only [go_sem,seval];refine aY.intro h3 ?_;simp only [go_sem,seval];(with_reducible and_intros)<;>first|exact .dq|omega|skip
 refine aa.pure h4 ?_;simp only [go_sem,seval]
theorem GI (b:aF) (h:b.small):Abs.Spec Tryz.prog 11 [] [.agg b.cells] [.own 7 (b.ts.map aI.cells)] (.agg [.int .i64 b.next,.ref 0,.sl 4 (b.qs.map aA.cells)]):=by
 refine Spec.frozen (oX b h) [1] rfl ?_;intro r;rcases r with _ | _ | r<;>rfl
def qm (p:aA):Bool:=ot p.who p.inst&&(bP p.aV&&bP p.cost)
def E3 (g:List aA):Bool:=(List.range 8).all fun i=>az (pick (fun p:aA=>p.inst==(i:Int)+1) aA.aV g)==0
def Ep (b:aF) (g:List aA) (w n:Int):Int:=az ((posOf w n b.qs).aV :: pick (dM w n) aA.aV g)
def Rs (b:aF) (g:List aA) (w n:Int):Int:=az ((posOf w n b.qs).cost :: pick (dM w n) aA.cost g)
def CE (b:aF) (g:List aA) (w n:Int):Bool:=bP (Ep b g w n)&&(bP (Rs b g w n)&&within (Ep b g w n) (-1099511627776) 1099511627776)
def D8 (b:aF) (g:List aA) (w n:Int):List aA:=if Ep b g w n==0&&Rs b g w n==0 then [] else [⟨w,n,Ep b g w n,Rs b g w n⟩]
def Ky (b:aF) (g:List aA) (w:Int) (i:Nat):List aA:=(List.range i).flatMap fun (k:Nat)=>D8 b g w ((k:Int)+1)
def vO (b:aF) (g:List aA) (i:Nat):List aA:=(List.range i).flatMap fun (k:Nat)=>Ky b g ((k:Int)+1) 8
def JH (b:aF) (g:List aA) (w:Int):Bool:=(List.range 8).all fun (k:Nat)=>CE b g w ((k:Int)+1)
def zb (b:aF) (g:List aA):Bool:=(List.range 16).all fun (k:Nat)=>JH b g ((k:Int)+1)
def jj (b:aF) (g:List aA):Int:=if b.okB then (if g.all qm then (if E3 g then (if zb b g then 0 else 1) else 12) else 3) else 14
def sn (b:aF) (g:List aA):aF:=if jj b g=0 then ⟨b.next,b.ts,vO b g 16⟩ else ⟨0,[],[]⟩
theorem TD (b:aF) (g:List aA) (w n:Int):(D8 b g w n).length<=1:=by unfold D8;split<;>simp
theorem M1 (b:aF) (g:List aA) (w:Int) (i:Nat):(Ky b g w i).length<=i:=by
 have:=yp (f:=fun (k:Nat)=>D8 b g w ((k:Int)+1)) (m:=1) (fun k=>TD _ _ _ _) i;simpa [Ky] using this
theorem AM (b:aF) (g:List aA) (i:Nat):(vO b g i).length<=8*i:=yp (f:=fun (k:Nat)=>Ky b g ((k:Int)+1) 8) (fun k=>M1 _ _ _ _) i
theorem Fm {w n:Int}:∀ {qs:List aA},(∀ p∈qs,p.cE)->eT (posOf w n qs).aV/\eT (posOf w n qs).cost
 | [],_=>by simp [posOf,eT]
 | p :: r,h=>by
  simp only [posOf];split
  ·have:=h p (by simp);exact ⟨this.2.2.1,this.2.2.2⟩
  ·exact Fm fun q hq=>h q (by simp [hq])
theorem ru (b:aF) (g:List aA) (hb:b.small) (hr:∀ p∈b.qs,p.cE) (hg:g.length < 2 ^ 29):Abs.Spec Tryz.prog 182 [] [.agg b.cells,.sl 4 (g.map aA.cells)] [.own 7 ((sn b g).ts.map aI.cells),.own 4 ((sn b g).qs.map aA.cells)] (.bH [.agg [.int .i64 (sn b g).next,.ref 0,.ref 1],.int .i64 (jj b g)]):=by
 have c1:=gH b hb hr;have c2:=GI b hb;have c3:=fun w n=>nv b w n hb
 have hpr:=fun w n=>Fm (w:=w) (n:=n) hr
 simp only [aF.cells] at c1 c2 c3 |-;refine bg 199 2 [.cell 4 33,.tmp 5] mixed Tryz.func182 ?_;simp only [go_sem,seval];(with_reducible and_intros)<;>first|exact .dq|omega|skip
 refine aa.pure c1 ?_;cases b1:b.okB
 ·have e:jj b g=14:=by simp [jj,b1]
  simp only [go_sem,seval,sn,e]<;>simp
 have e:jj b g=if g.all qm then (if E3 g then (if zb b g then 0 else 1) else 12) else 3:=by simp [jj,b1]
 simp only [sn];rw [e];clear e c1;simp only [go_sem,seval];refine aC.walk (S:=Unit) g.length [1,2,4] [48,80] (fun i _=>[(6,.int .i64 i)]) (fun _ _=>[]) (fun i _=>(g.drop i).all qm=g.all qm) () rfl ?_ ?_ ?_
 ·simp only [go_sem,seval]<;>simp
 ·intro i _ hi hdi hwi hI;have hm:=aD (c:=aA.cells) g hi;have hli:(i:Int) < (g.length:Int):=by omega
  obtain ⟨x,hx⟩:=aL (g[i]);have k1:=oQ x.who x.inst;have k2:=cY x.aV;have k3:=cY x.cost;rw [dy hi,<- hx] at hI;rw [<- hx] at hm;simp only [List.all_cons,qm] at hI;simp only [aA.cells] at hm;clear c2 c3;simp only [go_sem,seval,aG,hdi,hm];(with_reducible and_intros)<;>first|exact .dq|omega|skip
  refine aa.pure k1 ?_;cases q1:ot x.who x.inst
  ·rw [q1,Bool.false_and,Bool.false_and] at hI;have hI':g.all qm=false:=hI.symm;simp only [go_sem,seval,q1,hI']
   all_goals simp
  simp only [go_sem,seval,q1,aG,hm];(with_reducible and_intros)<;>first|exact .dq|omega|skip
  refine aa.pure k2 ?_;cases q2:bP x.aV
  ·rw [q1,q2,Bool.false_and,Bool.and_false,Bool.false_and] at hI;have hI':g.all qm=false:=hI.symm;simp only [go_sem,seval,q2,hI']
   all_goals simp
  simp only [go_sem,seval,q2,aG,hm];(with_reducible and_intros)<;>first|exact .dq|omega|skip
  refine aa.pure k3 ?_;cases q3:bP x.cost
  ·rw [q1,q2,q3,Bool.and_false,Bool.and_false,Bool.false_and] at hI;have hI':g.all qm=false:=hI.symm;simp only [go_sem,seval,q3,hI']
   all_goals simp
  rw [q1,q2,q3,Bool.and_self,Bool.and_self,Bool.true_and] at hI;simp only [go_sem,seval,q3,hwi];(with_reducible and_intros)<;>first|exact .dq|omega|skip
  refine ah.step () hi hI ?_;simp only [go_sem,seval]
 intro _ hdx hI;rw [List.drop_length] at hI;have hall:g.all qm=true:=hI.symm
 have hgm:∀ p∈g,bP p.aV=true/\bP p.cost=true:=fun p hp=>by
  have:=List.all_eq_true.1 hall p hp;simp only [qm,bW] at this;exact this.2
 rw [hall];simp only [go_sem,seval,aG,hdx];clear hI hdx;refine aC.walk (S:=Unit) 8 [1,2,4] [48,80] (fun i _=>[(7,.int .i64 ((i:Int)+1))]) (fun _ _=>[]) (fun i _=>∀ k < i,(az (pick (fun p:aA=>p.inst==((k:Nat):Int)+1) aA.aV g)==0)=true) () (by simp) ?_ ?_ ?_
 ·simp only [go_sem,seval]<;>simp
 ·intro c _ hc _ _ hI;obtain ⟨n,hn⟩:=aL ((c:Int)+1);have hd:decide (n<=8)=true:=decide_eq_true (by omega);have hw:IntKind.wrap .i64 (n+1)=((c+1:Nat):Int)+1:=by rw [bz (by omega) (by omega)];omega
  have hA:=cu (pick (fun p:aA=>p.inst==n) aA.aV g) (ku fun p hp=>n5 (hgm p hp).1) (by have:=bY (fun p:aA=>p.inst==n) aA.aV g;omega);have h0:=abr (pick (fun p:aA=>p.inst==n) aA.aV g)
  have hbad:(az (pick (fun p:aA=>p.inst==n) aA.aV g)==0)=false->E3 g=false:=fun h=>by
   rw [E3,List.all_eq_false];exact ⟨c,List.mem_range.2 hc,by rw [<- hn,h];simp⟩
  rw [<- hn];clear c2 c3;simp only [go_sem,seval,hd,aG];refine aC.walk (S:=Unit) g.length [1,2,4,7] [48,80] (fun i _=>[(9,.int .i64 i),(8,.ref 1360)]) (fun i _=>[(1360,.own 1 (ints (pick (fun p:aA=>p.inst==n) aA.aV (g.take i))))]) (fun _ _=>True) () trivial ?_ ?_ ?_
  ·simp only [go_sem,seval]<;>simp [pick,ints]
  ·intro i _ hi hdi hwi _;have hm:=aD (c:=aA.cells) g hi;have hs:=fL (fun p:aA=>p.inst==n) aA.aV hi;have hlen:=bY (fun p:aA=>p.inst==n) aA.aV (g.take i);have hlt:(g.take i).length=i:=by simp;omega
   have hli:(i:Int) < (g.length:Int):=by omega
   obtain ⟨L,hL⟩:=aL (pick (fun p:aA=>p.inst==n) aA.aV (g.take i));obtain ⟨x,hx⟩:=aL (g[i]);rw [<- hx,<- hL] at hs;rw [<- hx] at hm;rw [<- hL] at hlen |-;simp only [aA.cells] at hm;simp only [go_sem,seval,aG,hdi,hm];(with_reducible and_intros)<;>first|exact .dq|omega|skip
   cases hb:x.inst==n
   ·rw [hb] at hs;simp only [go_sem,seval,hwi];refine ah.step () hi trivial ?_;simp only [go_sem,seval,hs]<;>simp
   ·rw [hb] at hs;simp only [go_sem,seval,hwi,ay,aG,hm];(with_reducible and_intros)<;>first|exact .dq|omega|skip
    refine ah.step () hi trivial ?_;simp only [go_sem,seval,hs]<;>simp
  ·intro _ hdx _;simp only [go_sem,seval,hdx,aG,List.take_length];refine aa.gen [] [] true (by simp) ?_;simp only [go_sem,seval];refine aY.intro hA ?_;obtain ⟨L,hL⟩:=aL (pick (fun p:aA=>p.inst==n) aA.aV g);rw [<- hL] at h0 hbad |-;cases b1:bP (az L)
   ·have hbad:=hbad (by rw [<- h0,b1];rfl);simp only [go_sem,seval,b1,hbad]
    all_goals simp
   cases b2:addN L==0
   ·have hbad:=hbad (by rw [<- h0,b1,b2];rfl);simp only [go_sem,seval,b1,bne,b2,hbad]
    all_goals simp
   rw [b1,b2] at h0;simp only [go_sem,seval,b1,bne,b2,hw];(with_reducible and_intros)<;>first|exact .dq|omega|skip
   refine ah.step () hc ?_ ?_
   ·intro k hk;rcases Nat.lt_or_ge k c with h | h
    ·exact hI k h
    ·obtain rfl:k=c:=by omega
     rw [<- hn,<- hL];exact h0.symm
   ·simp only [go_sem,seval]
 intro _ _ hI;have hfl:E3 g=true:=List.all_eq_true.2 fun c hc=>hI c (List.mem_range.1 hc)
 rw [hfl];clear hI hfl hall;simp only [go_sem,seval];(with_reducible and_intros)<;>first|exact .dq|omega|skip
 refine aa.gen [] [] false (by simp) ?_;simp only [go_sem,seval];refine aY.intro c2 ?_;clear c2;simp only [go_sem,seval];(with_reducible and_intros)<;>first|exact .dq|omega|skip
 refine aC.walk (S:=Unit) 16 [1,2,4,12] [48,80,1584] (fun i _=>[(13,.int .i64 ((i:Int)+1))]) (fun i _=>[(208,.box [.int .i64 b.next,.ref 1584,.ref 3152]),(3152,.own 4 ((vO b g i).map aA.cells))]) (fun i _=>∀ k < i,JH b g (((k:Nat):Int)+1)=true) () (by simp) ?_ ?_ ?_
 ·simp only [go_sem,seval]<;>simp [vO]
 ·intro i _ hi _ _ hI;obtain ⟨w,hw⟩:=aL ((i:Int)+1);have hd:decide (w<=16)=true:=decide_eq_true (by omega);have hww:IntKind.wrap .i64 (w+1)=((i+1:Nat):Int)+1:=by rw [bz (by omega) (by omega)];omega
  have hnx:vO b g (i+1)=vO b g i++Ky b g w 8:=by rw [hw];exact tT _ i
  have hwl:=AM b g i
  have hbad:JH b g w=false->zb b g=false:=fun h=>by
   rw [zb,List.all_eq_false];exact ⟨i,List.mem_range.2 hi,by rw [<- hw,h];simp⟩
  obtain ⟨W,hW⟩:=aL (vO b g i);rw [<- hW] at hnx hwl |-;rw [<- hw];simp only [go_sem,seval,hd];refine aC.walk (S:=Unit) 8 [1,2,4,12,13] [48,80,1584] (fun j _=>[(14,.int .i64 ((j:Int)+1))]) (fun j _=>[(208,.box [.int .i64 b.next,.ref 1584,.ref 3152]),(3152,.own 4 ((W++Ky b g w j).map aA.cells))]) (fun j _=>∀ k < j,CE b g w (((k:Nat):Int)+1)=true) () (by simp) ?_ ?_ ?_
  ·simp only [go_sem,seval]<;>simp [Ky]
  ·intro j _ hj _ _ hJ;obtain ⟨n,hn⟩:=aL ((j:Int)+1);have hd:decide (n<=8)=true:=decide_eq_true (by omega);have hwn:IntKind.wrap .i64 (n+1)=((j+1:Nat):Int)+1:=by rw [bz (by omega) (by omega)];omega
   have hnn:Ky b g w (j+1)=Ky b g w j++D8 b g w n:=by rw [hn];exact tT _ j
   have hnl:=M1 b g w j
   have hbad2:CE b g w n=false->zb b g=false:=fun h=>hbad (by
    rw [JH,List.all_eq_false]
    exact ⟨j,List.mem_range.2 hj,by rw [<- hn,h];simp⟩)
   have hP:=c3 w n;have hpr:=hpr w n;obtain ⟨p,hp⟩:=aL (posOf w n b.qs);rw [<- hp] at hP hpr;obtain ⟨V,hV⟩:=aL (W++Ky b g w j);have hVl:V.length<=200:=by rw [hV,List.length_append];omega
   have hnV:W++Ky b g w (j+1)=V++D8 b g w n:=by rw [hnn,hV,List.append_assoc]
   have hA:=cu (p.aV :: pick (dM w n) aA.aV g) (fun x hx=>by
    rcases List.mem_cons.1 hx with rfl | hx
    ·exact hpr.1
    ·exact ku (fun q hq=>n5 (hgm q hq).1) x hx) (by have:=bY (dM w n) aA.aV g;simp only [List.length_cons];omega)
   have hB:=cu (p.cost :: pick (dM w n) aA.cost g) (fun x hx=>by
    rcases List.mem_cons.1 hx with rfl | hx
    ·exact hpr.2
    ·exact ku (fun q hq=>n5 (hgm q hq).2) x hx) (by have:=bY (dM w n) aA.cost g;simp only [List.length_cons];omega)
   have eq:az (p.aV :: pick (dM w n) aA.aV g)=Ep b g w n:=by rw [hp];rfl
   have ec:az (p.cost :: pick (dM w n) aA.cost g)=Rs b g w n:=by rw [hp];rfl
   rw [<- hV,<- hn];simp only [aA.cells] at hP;clear c3 hV hp hW hnn hnx;simp only [go_sem,seval,hd];(with_reducible and_intros)<;>first|exact .dq|omega|skip
   refine aa.pure hP ?_;simp only [go_sem,seval,aG];(with_reducible and_intros)<;>first|exact .dq|omega|skip
   refine aC.walk (S:=Unit) g.length [1,2,4,12,13,14] [48,80,208,1584,3152] (fun i _=>[(18,.int .i64 i),(16,.ref 2416),(17,.ref 2544)]) (fun i _=>[(2416,.own 1 (ints (p.aV :: pick (dM w n) aA.aV (g.take i)))),(2544,.own 1 (ints (p.cost :: pick (dM w n) aA.cost (g.take i))))]) (fun _ _=>True) () trivial ?_ ?_ ?_
   ·simp only [go_sem,seval]<;>simp [pick,ints]
   ·intro i _ hi hdi hwi _;have hm:=aD (c:=aA.cells) g hi;have hs1:=fL (dM w n) aA.aV hi;have hs2:=fL (dM w n) aA.cost hi;have hl1:=bY (dM w n) aA.aV (g.take i);have hl2:=bY (dM w n) aA.cost (g.take i);have hlt:(g.take i).length=i:=by simp;omega
    have hli:(i:Int) < (g.length:Int):=by omega
    have hs1:ints (p.aV :: pick (dM w n) aA.aV (g.take (i+1)))=ints (p.aV :: pick (dM w n) aA.aV (g.take i))++(if dM w n g[i] then [[.int .i64 g[i].aV]] else []):=congrArg (fun z:List (List D)=>([D.int .i64 p.aV]:List D) :: z) hs1;have hs2:ints (p.cost :: pick (dM w n) aA.cost (g.take (i+1)))=ints (p.cost :: pick (dM w n) aA.cost (g.take i))++(if dM w n g[i] then [[.int .i64 g[i].cost]] else []):=congrArg (fun z:List (List D)=>([D.int .i64 p.cost]:List D) :: z) hs2;have hl1:(p.aV :: pick (dM w n) aA.aV (g.take i)).length<=i+1:=by simp only [List.length_cons];omega
    have hl2:(p.cost :: pick (dM w n) aA.cost (g.take i)).length<=i+1:=by simp only [List.length_cons];omega
    obtain ⟨L,hL⟩:=aL (p.aV :: pick (dM w n) aA.aV (g.take i));obtain ⟨M,hM⟩:=aL (p.cost :: pick (dM w n) aA.cost (g.take i));obtain ⟨x,hx⟩:=aL (g[i]);rw [<- hx,<- hL] at hs1;rw [<- hx,<- hM] at hs2;rw [<- hx] at hm;rw [<- hL] at hl1;rw [<- hM] at hl2;rw [<- hL,<- hM];simp only [dM] at hs1 hs2;simp only [aA.cells] at hm;clear hL hM;cases q1:x.who==w
    ·simp only [q1,Bool.false_and,fZ,if_false,List.append_nil] at hs1 hs2;simp only [go_sem,seval,aG,hdi,hm,q1,hwi];(with_reducible and_intros)<;>first|exact .dq|omega|skip
     refine ah.step () hi trivial ?_;simp only [go_sem,seval,hs1,hs2]
    cases q2:x.inst==n
    ·simp only [q1,q2,Bool.and_false,fZ,if_false,List.append_nil] at hs1 hs2;simp only [go_sem,seval,aG,hdi,hm,q1,q2,hwi];(with_reducible and_intros)<;>first|exact .dq|omega|skip
     refine ah.step () hi trivial ?_;simp only [go_sem,seval,hs1,hs2]
    simp only [q1,q2,Bool.and_self,if_true] at hs1 hs2;simp only [go_sem,seval,aG,hdi,hm,q1,q2,hwi,ay];(with_reducible and_intros)<;>first|exact .dq|omega|skip
    refine ah.step () hi trivial ?_;simp only [go_sem,seval,hs1,hs2]
   ·intro _ hdx _;simp only [go_sem,seval,hdx,aG,List.take_length];(with_reducible and_intros)<;>first|exact .dq|omega|skip
    refine aa.gen [] [] true (by simp) ?_;simp only [go_sem,seval];refine aY.intro hA ?_;simp only [go_sem,seval];(with_reducible and_intros)<;>first|exact .dq|omega|skip
    refine aa.gen [] [] true (by simp) ?_;simp only [go_sem,seval];refine aY.intro hB ?_;simp only [addN,eq,ec];clear hA hB;have hW:=bn (Ep b g w n) (-1099511627776) 1099511627776;simp only [CE] at hbad2;simp only [D8] at hnV;obtain ⟨X,hX⟩:=aL (Ep b g w n);obtain ⟨Y,hY⟩:=aL (Rs b g w n);have hokX:(bP X&&(bP Y&&within X (-1099511627776) 1099511627776))=CE b g w n:=by rw [hX,hY];rfl
    rw [<- hX,<- hY] at hbad2 hnV;rw [<- hX] at hW;rw [<- hX,<- hY];cases b1:bP X
    ·have hbad2:=hbad2 (by rw [b1];rfl);simp only [go_sem,seval,b1,hbad2]
     all_goals simp
    cases b2:bP Y
    ·have hbad2:=hbad2 (by rw [b1,b2];rfl);simp only [go_sem,seval,b1,b2,hbad2]
     all_goals simp
    simp only [go_sem,seval,b1,b2];(with_reducible and_intros)<;>first|exact .dq|omega|skip
    refine aa.pure hW ?_;cases b3:within X (-1099511627776) 1099511627776
    ·have hbad2:=hbad2 (by rw [b1,b2,b3];rfl);simp only [go_sem,seval,b3,hbad2]
     all_goals simp
    have hJ2:∀ k < j+1,CE b g w (((k:Nat):Int)+1)=true:=fun k hk=>by
     rcases Nat.lt_or_ge k j with h | h
     ·exact hJ k h
     ·obtain rfl:k=j:=by omega
      rw [<- hn,<- hokX,b1,b2,b3];rfl
    cases q1:X==0
    ·simp only [q1,Bool.false_and,fZ,if_false] at hnV;simp only [go_sem,seval,b3,bne,q1,hwn,aG];(with_reducible and_intros)<;>first|exact .dq|omega|skip
     refine ah.step () hj hJ2 ?_;simp only [go_sem,seval,hnV]<;>simp
    cases q2:Y==0
    ·simp only [q1,q2,Bool.and_false,fZ,if_false] at hnV;simp only [go_sem,seval,b3,bne,q1,q2,hwn,aG];(with_reducible and_intros)<;>first|exact .dq|omega|skip
     refine ah.step () hj hJ2 ?_;simp only [go_sem,seval,hnV]<;>simp
    simp only [q1,q2,Bool.and_self,if_true,List.append_nil] at hnV;simp only [go_sem,seval,b3,bne,q1,q2,hwn];(with_reducible and_intros)<;>first|exact .dq|omega|skip
    refine ah.step () hj hJ2 ?_;simp only [go_sem,seval,hnV]
  ·intro _ _ hJ;have hok:JH b g w=true:=List.all_eq_true.2 fun k hk=>hJ k (List.mem_range.1 hk)
   simp only [go_sem,seval,hww];(with_reducible and_intros)<;>first|exact .dq|omega|skip
   refine ah.step () hi ?_ ?_
   ·intro k hk;rcases Nat.lt_or_ge k i with h | h
    ·exact hI k h
    ·obtain rfl:k=i:=by omega
     rw [<- hw];exact hok
   ·simp only [go_sem,seval,hnx]
 ·intro _ _ hI;have hok:zb b g=true:=List.all_eq_true.2 fun k hk=>hI k (List.mem_range.1 hk)
  simp only [go_sem,seval,hok]
theorem O7 {b:aF} (h:b.okB=true):0<=b.next/\b.next<=1099511627776/\b.ts.length<=128:=by
 simp only [aF.okB,bW,Bool.not_eq_true',decide_eq_false_iff_not] at h;omega
theorem kg {b:aF} {g:List aA} (h:jj b g=0):b.okB=true/\sn b g=⟨b.next,b.ts,vO b g 16⟩:=by
 refine ⟨?_,by simp [sn,h]⟩;unfold jj at h;split at h
 ·assumption
 ·cases h
theorem M3 {b:aF} {g:List aA} (h:jj b g≠0):sn b g=⟨0,[],[]⟩:=by simp [sn,h]
def fJ (b:aF) (t:aI):Int:=if b.okB then (if t.okB then (if 128<=b.ts.length then 9 else if b.next=1099511627776 then 1 else jj b (fV t false)) else 3) else 14
def gS (b:aF) (t:aI):aF:=if fJ b t=0 then ⟨b.next+1,b.ts++[{ t with no:=b.next+1,off:=false }],vO b (fV t false) 16⟩ else ⟨0,[],[]⟩
def pH (b:aF) (t:aI):Int:=if fJ b t=0 then b.next+1 else 0
theorem EX (t:aI) (k:Bool):(fV t k).length<=2:=by unfold fV;split<;>simp
theorem GO (b:aF) (t:aI) (hb:b.small) (hr:∀ p∈b.qs,p.cE):Abs.Spec Tryz.prog 129 [] [.agg b.cells,.agg t.cells] [.own 7 ((gS b t).ts.map aI.cells),.own 4 ((gS b t).qs.map aA.cells)] (.bH [.agg [.int .i64 (gS b t).next,.ref 0,.ref 1],.int .i64 (pH b t),.int .i64 (fJ b t)]):=by
 have c1:=gH b hb hr;have c2:=rW t;have c3:=tE t false;have c4:=ru b (fV t false) hb hr (by have:=EX t false;omega);have hlt:=hb.1;simp only [aF.cells,aI.cells] at c1 c2 c3 c4 |-;refine bg 54 2 [.cell 4 33,.tmp 5,.tmp 6] mixed Tryz.func129 ?_;simp only [go_sem,seval];(with_reducible and_intros)<;>first|exact .dq|omega|skip
 refine aa.pure c1 ?_;cases b1:b.okB
 ·have e:fJ b t=14:=by simp [fJ,b1]
  simp only [go_sem,seval,gS,pH,e]
  all_goals simp
 obtain ⟨n1,n2,n3⟩:=O7 b1;simp only [go_sem,seval];(with_reducible and_intros)<;>first|exact .dq|omega|skip
 refine aa.pure c2 ?_;cases b2:t.okB
 ·have e:fJ b t=3:=by simp [fJ,b1,b2]
  simp only [go_sem,seval,gS,pH,e]
  all_goals simp
 by_cases b3:128<=b.ts.length
 ·have e:fJ b t=9:=by simp [fJ,b1,b2,b3]
  have d:decide ((128:Int)<=(b.ts.length:Int))=true:=decide_eq_true (by omega);simp only [go_sem,seval,aG,d,gS,pH,e]
  all_goals simp
 have d3:decide ((128:Int)<=(b.ts.length:Int))=false:=decide_eq_false (by omega)
 by_cases b4:b.next=1099511627776
 ·have e:fJ b t=1:=by simp only [fJ,b1,b2,if_neg b3,if_pos b4];rfl
  have d:(b.next==1099511627776)=true:=by simpa using b4
  simp only [go_sem,seval,aG,d3,d,gS,pH,e]
  all_goals simp
 have d4:(b.next==1099511627776)=false:=by simpa using b4
 have e:fJ b t=jj b (fV t false):=by simp only [fJ,b1,b2,if_neg b3,if_neg b4];rfl
 have w:IntKind.wrap .i64 (b.next+1)=b.next+1:=bz (by omega) (by omega)
 simp only [gS,pH];rw [e];clear e c1 c2;simp only [go_sem,seval,aG,d3,d4];(with_reducible and_intros)<;>first|exact .dq|omega|skip
 refine aa.pure c3 ?_;simp only [go_sem,seval];(with_reducible and_intros)<;>first|exact .dq|omega|skip
 refine aa.gen [] [] false (by simp) ?_;simp only [go_sem,seval];refine aY.intro c4 ?_
 by_cases b5:jj b (fV t false)=0
 ·have hB:=(kg b5).2;rw [hB,b5];simp only [go_sem,seval,w,aG];(with_reducible and_intros)<;>first|exact .dq|omega|skip
  all_goals simp
 ·have hB:=M3 b5;have d5:(jj b (fV t false)==0)=false:=by simpa using b5
  rw [hB,if_neg b5,if_neg b5];simp only [go_sem,seval,bne,d5,aG];(with_reducible and_intros)<;>first|exact .dq|omega|skip
  all_goals simp
theorem uF (b:aF) (t:aI) (hb:b.small) (hr:∀ p∈b.qs,p.cE):Abs.Spec Tryz.prog 129 [] [.agg b.cells,.agg t.cells] [] (.bH [.agg (gS b t).cells,.int .i64 (pH b t),.int .i64 (fJ b t)]):=by
 refine Spec.frozen (GO b t hb hr) [0,1] rfl ?_;intro r;rcases r with _ | _ | r<;>rfl
theorem sN {n:Int}:∀ {ts:List aI},¬ gy n ts < 0->∃ (i:Nat) (h:i < ts.length),gy n ts=i/\Pe n ts[i]=true
 | [],h=>by simp [gy] at h
 | t :: r,h=>by
  simp only [gy] at h |-;split at h
  ·rename_i h1;exact ⟨0,by simp,by rw [if_pos h1];rfl,h1⟩
  ·rename_i h1;split at h
   ·omega
   ·rename_i h2;obtain ⟨i,hi,e,ho⟩:=sN (ts:=r) h2;refine ⟨i+1,by simp;omega,?_,by simpa using ho⟩;rw [if_neg h1,if_neg h2,e];rfl
def cq (n:Int) (ts:List aI):aI:=ts.getD (gy n ts).toNat ⟨0,0,0,0,0,0,false⟩
def Oa (n:Int) (ts:List aI):List aI:=ts.set (gy n ts).toNat { cq n ts with off:=true }
def eg (b:aF) (n:Int):Int:=if b.okB then (if gy n b.ts < 0 then 10 else jj b (fV (cq n b.ts) true)) else 14
def dI (b:aF) (n:Int):aF:=if eg b n=0 then ⟨b.next,Oa n b.ts,vO b (fV (cq n b.ts) true) 16⟩ else ⟨0,[],[]⟩
theorem D9 (b:aF) (n:Int) (hb:b.small) (hr:∀ p∈b.qs,p.cE):Abs.Spec Tryz.prog 132 [] [.agg b.cells,.int .i64 n] [.own 7 ((dI b n).ts.map aI.cells),.own 4 ((dI b n).qs.map aA.cells)] (.bH [.agg [.int .i64 (dI b n).next,.ref 0,.ref 1],.int .i64 (eg b n)]):=by
 have c1:=gH b hb hr;have c2:=qI b n hb;have c3:=tE (cq n b.ts) true;have c4:=ru b (fV (cq n b.ts) true) hb hr (by have:=EX (cq n b.ts) true;omega);have hlt:=hb.1;simp only [aF.cells] at c1 c2 c3 c4 |-;refine bg 40 2 [.cell 4 33,.tmp 5] mixed Tryz.func132 ?_;simp only [go_sem,seval];(with_reducible and_intros)<;>first|exact .dq|omega|skip
 refine aa.pure c1 ?_;cases b1:b.okB
 ·have e:eg b n=14:=by simp [eg,b1]
  simp only [go_sem,seval,dI,e]
  all_goals simp
 simp only [go_sem,seval];(with_reducible and_intros)<;>first|exact .dq|omega|skip
 refine aa.pure c2 ?_
 by_cases b2:gy n b.ts < 0
 ·have e:eg b n=10:=by simp [eg,b1,b2]
  have d:decide (gy n b.ts < 0)=true:=decide_eq_true b2;simp only [go_sem,seval,d,dI,e]
  all_goals simp
 have d2:decide (gy n b.ts < 0)=false:=decide_eq_false b2;have e:eg b n=jj b (fV (cq n b.ts) true):=by simp only [eg,b1,if_neg b2];rfl
 obtain ⟨i,hi,hfi,hon⟩:=sN b2;have hm:=aD (c:=aI.cells) b.ts hi;have hta:cq n b.ts=b.ts[i]:=by simp [cq,hfi,hi]
 have hli:(i:Int) < (b.ts.length:Int):=by omega
 have hoff:Oa n b.ts=b.ts.set i { b.ts[i] with off:=true }:=by simp [Oa,hta,hfi]
 simp only [dI];rw [e];rw [hta] at c3 c4 |-;rw [hoff];clear e c1 c2 hta hoff;obtain ⟨t,ht⟩:=aL (b.ts[i]);rw [<- ht] at hm c3 c4 |-;simp only [aI.cells] at hm c3;simp only [go_sem,seval,d2,hfi,hm,aG];rw [hfi] at d2;simp only [go_sem,seval,d2,hfi,hm,aG];(with_reducible and_intros)<;>first|exact .dq|omega|skip
 refine aa.pure c3 ?_;simp only [go_sem,seval];(with_reducible and_intros)<;>first|exact .dq|omega|skip
 refine aa.gen [] [] false (by simp) ?_;simp only [go_sem,seval];refine aY.intro c4 ?_
 by_cases b5:jj b (fV t true)=0
 ·have hB:=(kg b5).2;rw [hB,b5];simp only [go_sem,seval,hm,aG];(with_reducible and_intros)<;>first|exact .dq|omega|skip
  all_goals simp [List.map_set]
 ·have hB:=M3 b5;have d5:(jj b (fV t true)==0)=false:=by simpa using b5
  rw [hB,if_neg b5];simp only [go_sem,seval,bne,d5,aG];(with_reducible and_intros)<;>first|exact .dq|omega|skip
  all_goals simp
theorem tG (b:aF) (n:Int) (hb:b.small) (hr:∀ p∈b.qs,p.cE):Abs.Spec Tryz.prog 132 [] [.agg b.cells,.int .i64 n] [] (.bH [.agg (dI b n).cells,.int .i64 (eg b n)]):=by
 refine Spec.frozen (D9 b n hb hr) [0,1] rfl ?_;intro r;rcases r with _ | _ | r<;>rfl
theorem DV (b:aF) (n:Int) (hb:b.small):(dI b n).small:=by
 unfold dI;split
 ·refine ⟨by simpa [Oa] using hb.1,?_⟩;have:=AM b (fV (cq n b.ts) true) 16
  show (vO b (fV (cq n b.ts) true) 16).length < _
  omega
 ·exact ⟨by simp,by simp⟩
theorem Sn {b:aF} {g:List aA} {w n:Int} (hw:eT w) (hn:eT n) (h:CE b g w n=true):∀ p∈D8 b g w n,p.cE:=by
 intro p hp;unfold D8 at hp;split at hp
 ·cases hp
 ·obtain rfl:=List.mem_singleton.1 hp;simp only [CE,bW] at h;exact ⟨hw,hn,n5 h.1,n5 h.2.1⟩
theorem wu {b:aF} {g:List aA} {p:aA}:∀ {i:Nat},p∈vO b g i->∃ k m:Nat,k < i/\m < 8/\p∈D8 b g ((k:Int)+1) ((m:Int)+1):=by
 intro i hp;obtain ⟨k,hk,hp⟩:=List.mem_flatMap.1 hp;obtain ⟨m,hm,hp⟩:=List.mem_flatMap.1 hp;exact ⟨k,m,List.mem_range.1 hk,List.mem_range.1 hm,hp⟩
theorem BD {b:aF} {g:List aA} (h:zb b g=true) {k m:Nat} (hk:k < 16) (hm:m < 8):CE b g ((k:Int)+1) ((m:Int)+1)=true:=by
 have:=List.all_eq_true.1 h k (List.mem_range.2 hk);exact List.all_eq_true.1 this m (List.mem_range.2 hm)
theorem tQ {b:aF} {g:List aA} (h:jj b g=0):g.all qm=true/\E3 g=true/\zb b g=true:=by
 unfold jj at h;split at h
 ·split at h
  ·split at h
   ·split at h
    ·exact ⟨by assumption,by assumption,by assumption⟩
    ·cases h
   ·cases h
  ·cases h
 ·cases h
theorem MV {b:aF} {g:List aA} (h:jj b g=0):∀ p∈vO b g 16,p.cE:=by
 intro p hp;obtain ⟨k,m,hk,hm,hp⟩:=wu hp;exact Sn ⟨by omega,by omega⟩ ⟨by omega,by omega⟩ (BD (tQ h).2.2 hk hm) p hp
theorem nL {b:aF} {n:Int} (h:eg b n=0):b.okB=true /\ ¬ gy n b.ts < 0/\jj b (fV (cq n b.ts) true)=0:=by
 unfold eg at h;split at h
 ·split at h
  ·cases h
  ·exact ⟨by assumption,by assumption,h⟩
 ·cases h
theorem JB {b:aF} {n:Int}:∀ p∈(dI b n).qs,p.cE:=by
 unfold dI;split
 ·rename_i h;exact MV (nL h).2.2
 ·intro p hp;cases hp
def qG (b:aF) (n q p:Int):Int:=if eg b n=0 then fJ (dI b n) { cq n b.ts with aV:=q,aR:=p } else eg b n
def nW (b:aF) (n q p:Int):aF:=if eg b n=0 then gS (dI b n) { cq n b.ts with aV:=q,aR:=p } else ⟨0,[],[]⟩
def BU (b:aF) (n q p:Int):Int:=if eg b n=0 then pH (dI b n) { cq n b.ts with aV:=q,aR:=p } else 0
theorem zF (b:aF) (n q p:Int) (hb:b.small) (hr:∀ p∈b.qs,p.cE):Abs.Spec Tryz.prog 133 [] [.agg b.cells,.int .i64 n,.int .i64 q,.int .i64 p] [] (.bH [.agg (nW b n q p).cells,.int .i64 (BU b n q p),.int .i64 (qG b n q p)]):=by
 have c1:=tG b n hb hr;have c2:=qI b n hb;have c3:=uF (dI b n) { cq n b.ts with aV:=q,aR:=p } (DV b n hb) JB;have hlt:=hb.1;simp only [qG,nW,BU];obtain ⟨B,hB⟩:=aL (dI b n);obtain ⟨T,hT⟩:=aL (cq n b.ts);rw [<- hB,<- hT] at c3;rw [<- hB] at c1;rw [<- hB,<- hT];simp only [aF.cells,aI.cells] at c1 c2 c3 |-;refine bg 41 4 [.cell 8 33,.tmp 9,.tmp 10] mixed Tryz.func133 ?_;simp only [go_sem,seval];(with_reducible and_intros)<;>first|exact .dq|omega|skip
 refine aa.pure c1 ?_
 by_cases b1:eg b n=0
 case neg =>
  have d:(eg b n==0)=false:=by simpa using b1
  rw [if_neg b1,if_neg b1,if_neg b1];simp only [go_sem,seval,bne,d]
  all_goals simp
 obtain ⟨i,hi,hfi,hon⟩:=sN (nL b1).2.1;have hm:=aD (c:=aI.cells) b.ts hi;have hta:T=b.ts[i]:=by rw [hT];simp [cq,hfi,hi]
 have hli:(i:Int) < (b.ts.length:Int):=by omega
 rw [<- hta] at hm;rw [hfi] at c2;simp only [aI.cells] at hm;rw [b1];simp only [go_sem,seval];(with_reducible and_intros)<;>first|exact .dq|omega|skip
 refine aa.pure c2 ?_;simp only [go_sem,seval,hm,aG];(with_reducible and_intros)<;>first|exact .dq|omega|skip
 refine aa.pure c3 ?_;simp only [go_sem,seval]
def dQ (x:au):Int:=if x.set==0 then x.aR else x.set
def nK (x:au):Bool:=!(x.set==0&&x.aR==0)
def Bx (r:aq) (p:aA):Int:=
 if aZ r p.inst then (if !nK (aT r p.inst)&&!(p.aV==0) then 20 else if bP (gM p (aT r p.inst).mult (dQ (aT r p.inst)))&&bP (p.aV*dQ (aT r p.inst)) then 0 else 1) else 10
def n9 (r:aq):List aA->Int
 | []=>0
 | p :: t=>if Bx r p=0 then n9 r t else Bx r p
def wP (r:aq) (p:aA):aN:=⟨p.who,(aT r p.inst).cur,gM p (aT r p.inst).mult (dQ (aT r p.inst))⟩
def mT (r:aq) (p:aA):List aA:=if p.aV==0&&p.aV*dQ (aT r p.inst)==0 then [] else [⟨p.who,p.inst,p.aV,p.aV*dQ (aT r p.inst)⟩]
def um (r:aq) (b:aF):Int:=if r.okB&&b.okB then n9 r b.qs else 14
def vr (r:aq) (b:aF):aF:=if um r b=0 then ⟨b.next,b.ts,b.qs.flatMap (mT r)⟩ else ⟨0,[],[]⟩
def pQ (r:aq) (b:aF):List aN:=if um r b=0 then b.qs.map (wP r) else []
theorem mF (b:aF) (h:b.small):Abs.Spec Tryz.prog 11 [] [.agg b.cells] [] (.agg b.cells):=by
 refine Spec.frozen (oX b h) [0,1] rfl ?_;intro r;rcases r with _ | _ | r<;>rfl
theorem Kt {x:au} (h:x.ok=true):0<=dQ x/\dQ x<=1073741824:=by
 simp only [au.ok,within,bW,decide_eq_true_eq] at h;unfold dQ;split<;>omega
theorem CB {b:aF} (h:b.okB=true):∀ p∈b.qs,p.okB=true:=by
 intro p hp;simp only [aF.okB,bW] at h;obtain ⟨i,hi,rfl⟩:=List.mem_iff_getElem.1 hp;exact G2 h.1 hi
theorem A0 {p:aA} (h:p.okB=true):-1099511627776<=p.aV/\p.aV<=1099511627776/\bP p.cost=true:=by
 simp only [aA.okB,within,bW,decide_eq_true_eq] at h;exact ⟨h.2.1.1,h.2.1.2,h.2.2.1⟩
theorem LB (r:aq) (b:aF) (h:r.jh) (hb:b.small) (hr:∀ p∈b.qs,p.cE):Abs.Spec Tryz.prog 135 [] [.agg r.cells,.agg b.cells] [.own 4 ((vr r b).qs.map aA.cells),.own 3 ((pQ r b).map aN.cells)] (.bH [.agg [.int .i64 (vr r b).next,.sl 7 ((vr r b).ts.map aI.cells),.ref 0],.ref 1,.int .i64 (um r b)]):=by
 have c1:=dJ r h.small;have c2:=gH b hb hr;have c3:=fun n=>dc r n h.small
 have c4:=mF b hb;have hql:=hb.2;simp only [aq.cells,aF.cells] at c1 c2 c3 c4 |-;refine bg 117 2 [.cell 4 33,.tmp 5,.tmp 6] mixed Tryz.func135 ?_;simp only [go_sem,seval];(with_reducible and_intros)<;>first|exact .dq|omega|skip
 refine aa.pure c1 ?_;cases b1:r.okB
 ·have e:um r b=14:=by simp [um,b1]
  simp only [go_sem,seval,vr,pQ,e]
  all_goals simp
 simp only [go_sem,seval];(with_reducible and_intros)<;>first|exact .dq|omega|skip
 refine aa.pure c2 ?_;cases b2:b.okB
 ·have e:um r b=14:=by simp [um,b1,b2]
  simp only [go_sem,seval,vr,pQ,e]
  all_goals simp
 have e:um r b=n9 r b.qs:=by simp [um,b1,b2]
 have hpos:=CB b2;simp only [vr,pQ];rw [e];clear e c1 c2;simp only [go_sem,seval];(with_reducible and_intros)<;>first|exact .dq|omega|skip
 refine aa.pure c4 ?_;clear c4;simp only [go_sem,seval];(with_reducible and_intros)<;>first|exact .dq|omega|skip
 refine aC.walk (S:=Unit) b.qs.length [2,3,4,7] [48,64,80] (fun i _=>[(9,.int .i64 i),(8,.ref 1552)]) (fun i _=>[(128,.box [.int .i64 b.next,.sl 7 (b.ts.map aI.cells),.ref 1824]),(1552,.own 3 (((b.qs.take i).map (wP r)).map aN.cells)),(1824,.own 4 (((b.qs.take i).flatMap (mT r)).map aA.cells))]) (fun i _=>n9 r (b.qs.drop i)=n9 r b.qs) () rfl ?_ ?_ ?_
 ·simp only [go_sem,seval]<;>simp
 ·intro i _ hi hdi hwi hI;have hm:=aD (c:=aA.cells) b.qs hi;have hli:(i:Int) < (b.qs.length:Int):=by omega
  have hlt:(b.qs.take i).length=i:=by simp;omega
  have hq:=gm (mT r) hi
  have hql:((b.qs.take i).flatMap (mT r)).length<=i:=by
   have:=fu (f:=mT r) (m:=1) (fun p=>by unfold mT;split<;>simp) (b.qs.take i);omega
  have hD:(b.qs.take (i+1)).map (wP r)=(b.qs.take i).map (wP r)++[wP r b.qs[i]]:=by rw [List.take_succ_eq_append_getElem hi,List.map_append];rfl
  obtain ⟨n1,n2,n3⟩:=A0 (hpos b.qs[i] (List.getElem_mem hi));obtain ⟨p,hp⟩:=aL (b.qs[i]);obtain ⟨Q,hQ⟩:=aL ((b.qs.take i).flatMap (mT r));obtain ⟨L,hL⟩:=aL ((b.qs.take i).map (wP r));have hLl:L.length=i:=by rw [hL];simp;omega
  have c3k:=c3 p.inst;have hxok:=fun hh=>tZ (r:=r) (n:=p.inst) b1 hh
  obtain ⟨x,hx⟩:=aL (aT r p.inst);rw [dy hi,<- hp] at hI;simp only [n9,Bx,<- hx] at hI;rw [<- hp,<- hQ] at hq;rw [<- hp,<- hL] at hD;rw [<- hQ] at hql;simp only [mT,<- hx] at hq;simp only [wP,<- hx] at hD;rw [<- hp] at hm n1 n2 n3;rw [<- hx] at c3k hxok;rw [<- hQ,<- hL];simp only [aA.cells] at hm;simp only [au.cells] at c3k;clear c3 hQ hL hp hpos;simp only [go_sem,seval,aG,hdi,hm];(with_reducible and_intros)<;>first|exact .dq|omega|skip
  refine aa.pure c3k ?_;cases q1:aZ r p.inst
  ·simp only [q1,fZ,if_false] at hI;have hE:n9 r b.qs=10:=hI.symm;simp only [go_sem,seval,q1,hE]
   all_goals simp
  simp only [q1,if_true] at hI;have hxok:=hxok q1;have hpr:=Kt hxok;have hmu:=(og hxok).1;have c5:=uA x;have c6:=uT p x.mult (dQ x) ⟨by omega,by omega⟩ n3 (by omega) hpr;have c7:=yU p.aV (dQ x) ⟨by omega,by omega⟩ ⟨by omega,by omega⟩;have ep:(if x.set==0 then x.aR else x.set)=dQ x:=rfl;have eh:(!(x.set==0&&x.aR==0))=nK x:=rfl;rw [ep,eh] at c5;obtain ⟨W,hW⟩:=aL (gM p x.mult (dQ x));obtain ⟨C,hC⟩:=aL (p.aV*dQ x);rw [<- hW] at c6;rw [<- hC] at c7;rw [<- hW,<- hC] at hI;rw [<- hC] at hq;rw [<- hW] at hD;simp only [au.cells] at c5;simp only [aA.cells] at c6;clear ep eh hW hC;simp only [go_sem,seval,q1];(with_reducible and_intros)<;>first|exact .dq|omega|skip
  refine aa.pure c5 ?_;cases q2:nK x
  case false =>
   cases q3:p.aV==0
   ·simp only [q2,q3,Bool.not_false,Bool.and_self,if_true] at hI;have hE:n9 r b.qs=20:=hI.symm;simp only [go_sem,seval,q2,bne,q3,hE]
    all_goals simp
   simp only [q2,q3,Bool.not_true,Bool.and_false,fZ,if_false] at hI;simp only [go_sem,seval,q2,bne,q3];(with_reducible and_intros)<;>first|exact .dq|omega|skip
   refine aa.pure c6 ?_;simp only [go_sem,seval];(with_reducible and_intros)<;>first|exact .dq|omega|skip
   refine aa.pure c7 ?_;cases q4:bP W
   ·simp only [q4,Bool.false_and,fZ,if_false] at hI;have hE:n9 r b.qs=1:=hI.symm;simp only [go_sem,seval,q4,hE]
    all_goals simp
   cases q5:bP C
   ·simp only [q4,q5,Bool.and_false,fZ,if_false] at hI;have hE:n9 r b.qs=1:=hI.symm;simp only [go_sem,seval,q4,q5,hE]
    all_goals simp
   simp only [q4,q5,Bool.and_self,if_true] at hI;cases q6:C==0
   ·simp only [q3,q6,Bool.and_false,fZ,if_false] at hq;simp only [go_sem,seval,q4,q5,bne,q3,q6,hwi,aG];(with_reducible and_intros)<;>first|exact .dq|omega|skip
    refine ah.step () hi hI ?_;simp only [go_sem,seval,hq,hD]<;>simp
   ·simp only [q3,q6,Bool.and_self,if_true,List.append_nil] at hq;simp only [go_sem,seval,q4,q5,bne,q3,q6,hwi,aG];(with_reducible and_intros)<;>first|exact .dq|omega|skip
    refine ah.step () hi hI ?_;simp only [go_sem,seval,hq,hD]<;>simp
  simp only [q2,Bool.not_true,Bool.false_and,fZ,if_false] at hI;simp only [go_sem,seval,q2];(with_reducible and_intros)<;>first|exact .dq|omega|skip
  refine aa.pure c6 ?_;simp only [go_sem,seval];(with_reducible and_intros)<;>first|exact .dq|omega|skip
  refine aa.pure c7 ?_;cases q4:bP W
  ·simp only [q4,Bool.false_and,fZ,if_false] at hI;have hE:n9 r b.qs=1:=hI.symm;simp only [go_sem,seval,q4,hE]
   all_goals simp
  cases q5:bP C
  ·simp only [q4,q5,Bool.and_false,fZ,if_false] at hI;have hE:n9 r b.qs=1:=hI.symm;simp only [go_sem,seval,q4,q5,hE]
   all_goals simp
  simp only [q4,q5,Bool.and_self,if_true] at hI
  cases q3:p.aV==0<;>cases q6:C==0<;>(
   simp only [q3,q6,Bool.and_self,Bool.and_false,Bool.false_and,fZ,if_false,if_true,List.append_nil] at hq;simp only [go_sem,seval,q4,q5,bne,q3,q6,hwi,aG];(with_reducible and_intros)<;>first|exact .dq|omega|skip
   try refine ah.step () hi hI ?_
   try simp only [go_sem,seval,hq,hD])
  all_goals simp
 ·intro _ hdx hI;rw [List.drop_length] at hI;have hE:n9 r b.qs=0:=hI.symm;simp only [go_sem,seval,aG,hdx,hE,List.take_length]
  all_goals simp
theorem Jw (r:aq) (b:aF) (h:r.jh) (hb:b.small) (hr:∀ p∈b.qs,p.cE):Abs.Spec Tryz.prog 135 [] [.agg r.cells,.agg b.cells] [] (.bH [.agg (vr r b).cells,.sl 3 ((pQ r b).map aN.cells),.int .i64 (um r b)]):=by
 refine Spec.frozen (LB r b h hb hr) [0,1] rfl ?_;intro r;rcases r with _ | _ | r<;>rfl
def lO (w c:Int) (x:aB):Bool:=x.who==w&&x.cur==c
def cR (w c:Int):List aB->Int
 | []=>-1
 | x :: r=>if lO w c x then 0 else if cR w c r < 0 then -1 else cR w c r+1
theorem yZ {w c:Int}:∀ {xs:List aB} {i:Nat} (h:i < xs.length),(∀ j (hj:j < xs.length),j < i->lO w c xs[j]=false)->lO w c xs[i]=true->cR w c xs=i
 | [],i,h,_,_=>by simp at h
 | x :: r,0,h,_,he=>by
  have he:lO w c x=true:=he;simp [cR,he]
 | x :: r,i+1,h,hn,he=>by
  have h0:lO w c x=false:=hn 0 (by simp) (by omega);have h2:=yZ (xs:=r) (i:=i) (by simpa using h) (fun j hj hji=>hn (j+1) (by simpa using hj) (by omega)) he;simp only [cR,h0,h2];rw [if_neg (by simp),if_neg (by omega)];omega
theorem wX {w c:Int}:∀ {xs:List aB},(∀ j (hj:j < xs.length),lO w c xs[j]=false)->cR w c xs = -1
 | [],_=>rfl
 | x :: r,hn=>by
  have h0:lO w c x=false:=hn 0 (by simp);have h2:=wX (xs:=r) (fun j hj=>hn (j+1) (by simpa using hj));simp [cR,h0,h2]
theorem om {w c:Int}:∀ {xs:List aB},¬ cR w c xs < 0->∃ (i:Nat) (h:i < xs.length),cR w c xs=i/\lO w c xs[i]=true
 | [],h=>by simp [cR] at h
 | t :: r,h=>by
  simp only [cR] at h |-;split at h
  ·rename_i h1;exact ⟨0,by simp,by rw [if_pos h1];rfl,h1⟩
  ·rename_i h1;split at h
   ·omega
   ·rename_i h2;obtain ⟨i,hi,e,ho⟩:=om (xs:=r) h2;refine ⟨i+1,by simp;omega,?_,by simpa using ho⟩;rw [if_neg h1,if_neg h2,e];rfl
def lI (w c:Int) (xs:List aB):aB:=xs.getD (cR w c xs).toNat ⟨0,0,0,0⟩
theorem kk (w c:Int) (xs:List aB) (hl:xs.length < 2 ^ 40):Abs.Spec Tryz.prog 166 [] [.int .i64 w,.int .i64 c,.sl 4 (xs.map aB.cells)] [] (.int .i64 (cR w c xs)):=by
 refine bg 33 3 [.tmp 6] mixed Tryz.func166 ?_;simp only [go_sem,seval,aG];refine aC.walk (S:=Unit) xs.length [0,1,2] [] (fun i _=>[(7,.int .i64 i)]) (fun _ _=>[]) (fun i _=>∀ j (hj:j < xs.length),j < i->lO w c xs[j]=false) () (by intros;omega) ?_ ?_ ?_
 ·simp only [go_sem,seval]<;>simp
 ·intro i _ hi hdi hwi hI;have hm:=aD (c:=aB.cells) xs hi;have hli:(i:Int) < (xs.length:Int):=by omega
  have hhit:=yZ hi hI
  have hnext:lO w c xs[i]=false->∀ j (hj:j < xs.length),j < i+1->lO w c xs[j]=false:=fun h0 j hj hji=>by
   rcases Nat.lt_or_ge j i with h | h
   ·exact hI j hj h
   ·obtain rfl:j=i:=by omega
    exact h0
  obtain ⟨x,hx⟩:=aL (xs[i]);rw [<- hx] at hm hhit hnext;simp only [lO] at hhit hnext;simp only [aB.cells] at hm;cases q1:x.who==w
  ·simp only [go_sem,seval,aG,hdi,hm,q1,hwi];(with_reducible and_intros)<;>first|exact .dq|omega|skip
   refine ah.step () hi (hnext (by simp [q1])) ?_;simp only [go_sem,seval]
  cases q2:x.cur==c
  ·simp only [go_sem,seval,aG,hdi,hm,q1,q2,hwi];(with_reducible and_intros)<;>first|exact .dq|omega|skip
   refine ah.step () hi (hnext (by simp [q2])) ?_;simp only [go_sem,seval]
  simp only [go_sem,seval,aG,hdi,hm,q1,q2,hhit (by simp [q1,q2])];(with_reducible and_intros)<;>first|exact .dq|omega|skip
 ·intro _ hdx hI;simp only [go_sem,seval,aG,hdx,wX (fun j hj=>hI j hj hj)]
def F0 (xs:List aB) (x:aB) (w c:Int):List aB:=if x.who==w&&x.cur==c then (if 0 < x.bV then [x] else []) else if cR w c xs < 0 then [] else [lI w c xs]
def xU (xs:List aB) (x:aB) (w:Int) (i:Nat):List aB:=oo (fun k=>F0 xs x w k) i
def xY (xs:List aB) (x:aB) (i:Nat):List aB:=oo (fun k=>xU xs x ((k:Int)+1) 3) i
theorem Ku (xs:List aB) (x:aB) (w c:Int):(F0 xs x w c).length<=1:=by
 unfold F0;split
 ·split<;>simp
 ·split<;>simp
theorem IF (xs:List aB) (x:aB) (w:Int) (i:Nat):(xU xs x w i).length<=i:=by
 have:=kF (f:=fun k=>F0 xs x w (k:Nat)) (m:=1) (fun k=>Ku _ _ _ _) i;simpa [xU] using this
theorem HQ (xs:List aB) (x:aB) (i:Nat):(xY xs x i).length<=3*i:=kF (fun k=>IF _ _ _ _) i
theorem L7 (xs:List aB) (x:aB) (hl:xs.length < 2 ^ 30):Abs.Spec Tryz.prog 167 [] [.sl 4 (xs.map aB.cells),.agg x.cells] [.own 4 ((xY xs x 16).map aB.cells)] (.ref 0):=by
 have c1:=fun w c=>kk w c xs (by omega)
 refine bg 51 2 [.tmp 4] mixed Tryz.func167 ?_;simp only [aB.cells];simp only [go_sem,seval];refine aC.walk (S:=Unit) 16 [0,3] [64] (fun i _=>[(6,.int .i64 ((i:Int)+1)),(5,.ref 592)]) (fun i _=>[(592,.own 4 ((xY xs x i).map aB.cells))]) (fun _ _=>True) () trivial ?_ ?_ ?_
 ·simp only [go_sem,seval,xY,kD]<;>simp
 ·intro i _ hi _ _ _;obtain ⟨w,hw⟩:=aL ((i:Int)+1);have hd:decide (w<=16)=true:=decide_eq_true (by omega);have hww:IntKind.wrap .i64 (w+1)=((i+1:Nat):Int)+1:=by rw [bz (by omega) (by omega)];omega
  have hnx:xY xs x (i+1)=xY xs x i++xU xs x w 3:=by rw [hw];exact iM _ i
  have hwl:=HQ xs x i;obtain ⟨W,hW⟩:=aL (xY xs x i);rw [<- hW] at hnx hwl |-;rw [<- hw];simp only [go_sem,seval,hd];refine aC.walk (S:=Unit) 3 [0,3,6] [64] (fun j _=>[(7,.int .i64 j),(5,.ref 592)]) (fun j _=>[(592,.own 4 ((W++xU xs x w j).map aB.cells))]) (fun _ _=>True) () trivial ?_ ?_ ?_
  ·simp only [go_sem,seval,xU,kD]<;>simp
  ·intro c _ hc hdc hwc _;have hdc:decide ((c:Int) < 3)=true:=hdc;have hnc:xU xs x w (c+1)=xU xs x w c++F0 xs x w c:=iM _ c;have hlc:=IF xs x w c;obtain ⟨V,hV⟩:=aL (W++xU xs x w c);have hVl:V.length<=100:=by rw [hV,List.length_append];omega
   have hnV:W++xU xs x w (c+1)=V++F0 xs x w c:=by rw [hnc,hV,List.append_assoc]
   have c1:=c1 w c;rw [<- hV];clear hV hnc hW hnx;simp only [F0] at hnV
   have rest:(x.who==w&&x.cur==(c:Int))=false->∀ {Q:Prop},(cR w c xs < 0->W++xU xs x w (c+1)=V->Q)->(∀ (k:Nat) (hk:k < xs.length),cR w c xs=k->W++xU xs x w (c+1)=V++[xs[k]]->Q)->Q:=fun h0 Q f1 f2=>by
    by_cases h:cR w c xs < 0
    ·rw [h0,if_neg (by simp),if_pos h,List.append_nil] at hnV;exact f1 h hnV
    ·obtain ⟨k,hk,hk2,_⟩:=om h;rw [h0,if_neg (by simp),if_neg h] at hnV;exact f2 k hk hk2 (by rw [hnV,lI,hk2];simp [hk])
   have hsw:(w==x.who)=(x.who==w):=by rw [Bool.eq_iff_iff];simp only [beq_iff_eq];exact eq_comm
   cases q1:x.who==w
   ·refine rest (by simp [q1]) (fun h hn=>?_) (fun k hk h hn=>?_)
    ·have d:decide (0<=cR w c xs)=false:=decide_eq_false (by omega);simp only [go_sem,seval,hdc,hsw,q1];(with_reducible and_intros)<;>first|exact .dq|omega|skip
     refine aa.pure c1 ?_;simp only [go_sem,seval,d,hwc];refine ah.step () hc trivial ?_;simp only [go_sem,seval,hn]
    ·have hm:=aD (c:=aB.cells) xs hk;have hlk:(k:Int) < (xs.length:Int):=by omega
     simp only [aB.cells] at hm;rw [h] at c1;simp only [go_sem,seval,hdc,hsw,q1];(with_reducible and_intros)<;>first|exact .dq|omega|skip
     refine aa.pure c1 ?_;simp only [go_sem,seval,hwc,hm,aG];(with_reducible and_intros)<;>first|exact .dq|omega|skip
     refine ah.step () hc trivial ?_;simp only [go_sem,seval,hn]<;>simp
   cases q2:x.cur==(c:Int)
   ·have q3:((c:Int)==x.cur)=false:=by rw [<- q2,Bool.eq_iff_iff];simp;omega
    refine rest (by simp [q2]) (fun h hn=>?_) (fun k hk h hn=>?_)
    ·have d:decide (0<=cR w c xs)=false:=decide_eq_false (by omega);simp only [go_sem,seval,hdc,hsw,q1,q2,q3];(with_reducible and_intros)<;>first|exact .dq|omega|skip
     refine aa.pure c1 ?_;simp only [go_sem,seval,d,hwc];refine ah.step () hc trivial ?_;simp only [go_sem,seval,hn]
    ·have hm:=aD (c:=aB.cells) xs hk;have hlk:(k:Int) < (xs.length:Int):=by omega
     simp only [aB.cells] at hm;rw [h] at c1;simp only [go_sem,seval,hdc,hsw,q1,q2,q3];(with_reducible and_intros)<;>first|exact .dq|omega|skip
     refine aa.pure c1 ?_;simp only [go_sem,seval,hwc,hm,aG];(with_reducible and_intros)<;>first|exact .dq|omega|skip
     refine ah.step () hc trivial ?_;simp only [go_sem,seval,hn]<;>simp
   have q3:((c:Int)==x.cur)=true:=by rw [<- q2,Bool.eq_iff_iff];simp;omega
   have q4:(w==x.who)=true:=by rw [<- q1,Bool.eq_iff_iff];simp;omega
   by_cases q5:0 < x.bV
   ·have d:decide (0 < x.bV)=true:=decide_eq_true q5;simp only [q1,q2,Bool.and_self,if_true,if_pos q5] at hnV;simp only [go_sem,seval,hdc,q1,q2,q3,q4,d,hwc,aG];(with_reducible and_intros)<;>first|exact .dq|omega|skip
    refine ah.step () hc trivial ?_;simp only [go_sem,seval,hnV]<;>simp
   ·have d:decide (0 < x.bV)=false:=decide_eq_false q5;simp only [q1,q2,Bool.and_self,if_true,if_neg q5,List.append_nil] at hnV;simp only [go_sem,seval,hdc,q1,q2,q3,q4,d,hwc];refine ah.step () hc trivial ?_;simp only [go_sem,seval,hnV]
  ·intro _ hdc _;have hdc:decide ((3:Int) < 3)=false:=hdc;simp only [go_sem,seval,hdc,hww];refine ah.step () hi trivial ?_;simp only [go_sem,seval,hnx]
 ·intro _ _ _;simp only [go_sem,seval]
theorem zf (xs:List aB) (x:aB) (hl:xs.length < 2 ^ 30):Abs.Spec Tryz.prog 167 [] [.sl 4 (xs.map aB.cells),.agg x.cells] [] (.sl 4 ((xY xs x 16).map aB.cells)):=by
 refine Spec.frozen (L7 xs x hl) [0] rfl ?_;intro r;rcases r with _ | r<;>rfl
def wN (d:aN):Bool:=(within d.who 1 16&&within d.cur 0 2)&&within d.bV 0 4611686018427387904
theorem qj (d:aN):Abs.Spec Tryz.prog 165 [] [.agg d.cells] [] (.bool (wN d)):=by
 have c1:=fC d.who;have c2:=fA d.cur;have c3:=eM d.bV 0 4611686018427387904;simp only [aN.cells,wN];refine bg 16 1 [.tmp 2] mixed Tryz.func165 ?_;simp only [go_sem,seval];(with_reducible and_intros)<;>first|exact .dq|omega|skip
 refine aa.pure c1 ?_;cases q1:within d.who 1 16
 ·simp only [go_sem,seval,Bool.false_and]
 simp only [go_sem,seval];(with_reducible and_intros)<;>first|exact .dq|omega|skip
 refine aa.pure c2 ?_;cases q2:within d.cur 0 2
 ·simp only [go_sem,seval,Bool.false_and,Bool.and_false]
 simp only [go_sem,seval];(with_reducible and_intros)<;>first|exact .dq|omega|skip
 refine aa.pure c3 ?_;simp only [go_sem,seval,Bool.true_and]
def C9 (xs:List aB) (d:aN) (at_:Int):Int:=if mg bS bL xs then (if wN d&&within at_ 0 1099511627776 then 0 else 3) else 14
def zw (xs:List aB) (d:aN) (at_:Int):List aB:=if C9 xs d at_=0 then xY xs ⟨d.who,d.cur,d.bV,if cR d.who d.cur xs < 0 then at_ else (lI d.who d.cur xs).till⟩ 16 else []
theorem IZ (xs:List aB) (d:aN) (at_:Int) (hl:xs.length < 2 ^ 30):Abs.Spec Tryz.prog 141 [] [.sl 4 (xs.map aB.cells),.agg d.cells,.int .i64 at_] [] (.bH [.sl 4 ((zw xs d at_).map aB.cells),.int .i64 (C9 xs d at_)]):=by
 have c1:=pT xs hl;have c2:=qj d;have c3:=eM at_ 0 1099511627776;have c4:=kk d.who d.cur xs (by omega);have c5:=fun x=>zf xs x hl
 simp only [aN.cells,aB.cells] at c2 c5 |-;refine bg 38 3 [.tmp 6,.tmp 7] mixed Tryz.func141 ?_;simp only [go_sem,seval];(with_reducible and_intros)<;>first|exact .dq|omega|skip
 refine aa.pure c1 ?_;cases b1:mg bS bL xs
 ·have e:C9 xs d at_=14:=by simp [C9,b1]
  simp only [go_sem,seval,zw,e]<;>simp
 simp only [go_sem,seval];(with_reducible and_intros)<;>first|exact .dq|omega|skip
 refine aa.pure c2 ?_;cases b2:wN d
 ·have e:C9 xs d at_=3:=by simp [C9,b1,b2]
  simp only [go_sem,seval,zw,e]<;>simp
 simp only [go_sem,seval];(with_reducible and_intros)<;>first|exact .dq|omega|skip
 refine aa.pure c3 ?_;cases b3:within at_ 0 1099511627776
 ·have e:C9 xs d at_=3:=by simp [C9,b1,b2,b3]
  simp only [go_sem,seval,zw,e]<;>simp
 have e:C9 xs d at_=0:=by simp [C9,b1,b2,b3]
 simp only [zw,e];simp only [go_sem,seval];(with_reducible and_intros)<;>first|exact .dq|omega|skip
 refine aa.pure c4 ?_
 by_cases h:cR d.who d.cur xs < 0
 ·have dd:decide (0<=cR d.who d.cur xs)=false:=decide_eq_false (by omega);have c5:=c5 ⟨d.who,d.cur,d.bV,at_⟩;rw [if_pos h];simp only [go_sem,seval,dd];(with_reducible and_intros)<;>first|exact .dq|omega|skip
  refine aa.pure c5 ?_;simp only [go_sem,seval]
 ·obtain ⟨k,hk,hk2,_⟩:=om h;have hm:=aD (c:=aB.cells) xs hk;have hlk:(k:Int) < (xs.length:Int):=by omega
  have hc:lI d.who d.cur xs=xs[k]:=by rw [lI,hk2];simp [hk]
  have c5:=c5 ⟨d.who,d.cur,d.bV,xs[k].till⟩;simp only [aB.cells] at hm;rw [if_neg h,hc];simp only [go_sem,seval,hk2,hm,aG];(with_reducible and_intros)<;>first|exact .dq|omega|skip
  refine aa.pure c5 ?_;simp only [go_sem,seval]
def pY (xs:List aB) (d:aN):Int:=if mg bS bL xs then (if wN d then 0 else 3) else 14
def JR (xs:List aB) (d:aN):aB:=if cR d.who d.cur xs < 0 then ⟨d.who,d.cur,0,0⟩ else { lI d.who d.cur xs with bV:=max ((lI d.who d.cur xs).bV-d.bV) 0 }
def rJ (xs:List aB) (d:aN):List aB:=if pY xs d=0 then xY xs (JR xs d) 16 else []
theorem xj (xs:List aB) (d:aN) (hl:xs.length < 2 ^ 30):Abs.Spec Tryz.prog 121 [] [.sl 4 (xs.map aB.cells),.agg d.cells] [] (.bH [.sl 4 ((rJ xs d).map aB.cells),.int .i64 (pY xs d)]):=by
 have c1:=pT xs hl;have c2:=qj d;have c4:=kk d.who d.cur xs (by omega);have c5:=fun x=>zf xs x hl
 simp only [aN.cells,aB.cells] at c2 c5 |-;refine bg 46 2 [.tmp 4,.tmp 5] mixed Tryz.func121 ?_;simp only [go_sem,seval];(with_reducible and_intros)<;>first|exact .dq|omega|skip
 refine aa.pure c1 ?_;cases b1:mg bS bL xs
 ·have e:pY xs d=14:=by simp [pY,b1]
  simp only [go_sem,seval,rJ,e]<;>simp
 simp only [go_sem,seval];(with_reducible and_intros)<;>first|exact .dq|omega|skip
 refine aa.pure c2 ?_;cases b2:wN d
 ·have e:pY xs d=3:=by simp [pY,b1,b2]
  simp only [go_sem,seval,rJ,e]<;>simp
 have e:pY xs d=0:=by simp [pY,b1,b2]
 simp only [rJ,e];simp only [go_sem,seval];(with_reducible and_intros)<;>first|exact .dq|omega|skip
 refine aa.pure c4 ?_
 by_cases h:cR d.who d.cur xs < 0
 ·have dd:decide (cR d.who d.cur xs < 0)=true:=decide_eq_true h;have c5:=c5 ⟨d.who,d.cur,0,0⟩;simp only [JR];rw [if_pos h];simp only [go_sem,seval,dd];(with_reducible and_intros)<;>first|exact .dq|omega|skip
  refine aa.pure c5 ?_;simp only [go_sem,seval]
 ·obtain ⟨k,hk,hk2,_⟩:=om h;have hm:=aD (c:=aB.cells) xs hk;have hlk:(k:Int) < (xs.length:Int):=by omega
  have hc:lI d.who d.cur xs=xs[k]:=by rw [lI,hk2];simp [hk]
  have hok:=G2 b1 hk;simp only [bS,within,bW,decide_eq_true_eq] at hok;simp only [wN,within,bW,decide_eq_true_eq] at b2;simp only [JR];rw [if_neg h,hc];obtain ⟨x,hx⟩:=aL (xs[k]);rw [<- hx] at hm hok |-;have hw:IntKind.wrap .i64 (x.bV-d.bV)=x.bV-d.bV:=bz (by omega) (by omega);have c5:=c5 { x with bV:=max (x.bV-d.bV) 0 };simp only [aB.cells] at hm c5;have dd:decide ((k:Int) < 0)=false:=decide_eq_false (by omega);simp only [go_sem,seval,hk2,dd,hm,aG,hw];(with_reducible and_intros)<;>first|exact .dq|omega|skip
  refine aa.pure c5 ?_;simp only [go_sem,seval]
def mN (n:Int) (xs:List aB):List aB:=xs.flatMap fun x=>if x.till<=n then [x] else []
def zn (n:Int) (xs:List aB):List aB:=xs.flatMap fun x=>if x.till<=n then [] else [x]
theorem I5 (n:Int) (xs:List aB) (hl:xs.length < 2 ^ 30):Abs.Spec Tryz.prog 143 [] [.int .i64 n,.sl 4 (xs.map aB.cells)] [.own 4 ((mN n xs).map aB.cells),.own 4 ((zn n xs).map aB.cells)] (.bH [.ref 0,.ref 1]):=by
 refine bg 38 2 [.tmp 4,.tmp 5] mixed Tryz.func143 ?_;simp only [go_sem,seval,aG];refine aC.walk (S:=Unit) xs.length [0,1] [] (fun i _=>[(8,.int .i64 i),(6,.ref 464),(7,.ref 576)]) (fun i _=>[(464,.own 4 ((mN n (xs.take i)).map aB.cells)),(576,.own 4 ((zn n (xs.take i)).map aB.cells))]) (fun _ _=>True) () trivial ?_ ?_ ?_
 ·simp only [go_sem,seval]<;>simp [mN,zn]
 ·intro i _ hi hdi hwi _;have hm:=aD (c:=aB.cells) xs hi;have hli:(i:Int) < (xs.length:Int):=by omega
  have hlt:(xs.take i).length=i:=by simp;omega
  have hA:mN n (xs.take (i+1))=mN n (xs.take i)++_:=gm _ hi;have hB:zn n (xs.take (i+1))=zn n (xs.take i)++_:=gm _ hi;have hAl:(mN n (xs.take i)).length<=1*(xs.take i).length:=fu (fun x=>by split<;>simp) _;have hBl:(zn n (xs.take i)).length<=1*(xs.take i).length:=fu (fun x=>by split<;>simp) _;obtain ⟨L,hL⟩:=aL (mN n (xs.take i));obtain ⟨M,hM⟩:=aL (zn n (xs.take i));obtain ⟨x,hx⟩:=aL (xs[i]);rw [<- hL] at hA hAl;rw [<- hM] at hB hBl;rw [<- hx] at hA hB hm;rw [<- hL,<- hM];simp only [aB.cells] at hm
  by_cases q:x.till<=n
  ·have d:decide (x.till<=n)=true:=decide_eq_true q;rw [if_pos q] at hA hB;simp only [go_sem,seval,aG,hdi,hm,d,hwi];(with_reducible and_intros)<;>first|exact .dq|omega|skip
   refine ah.step () hi trivial ?_;simp only [go_sem,seval,hA,hB]<;>simp
  ·have d:decide (x.till<=n)=false:=decide_eq_false q;rw [if_neg q] at hA hB;simp only [go_sem,seval,aG,hdi,hm,d,hwi];(with_reducible and_intros)<;>first|exact .dq|omega|skip
   refine ah.step () hi trivial ?_;simp only [go_sem,seval,hA,hB]<;>simp
 ·intro _ hdx _;simp only [go_sem,seval,aG,hdx,List.take_length]
theorem FR (n:Int) (xs:List aB) (hl:xs.length < 2 ^ 30):Abs.Spec Tryz.prog 143 [] [.int .i64 n,.sl 4 (xs.map aB.cells)] [] (.bH [.sl 4 ((mN n xs).map aB.cells),.sl 4 ((zn n xs).map aB.cells)]):=by
 refine Spec.frozen (I5 n xs hl) [0,1] rfl ?_;intro r;rcases r with _ | _ | r<;>rfl
def eu (xs:List aB) (ws:List Int):List aB:=xs.flatMap fun x=>if qF ws x.who then [] else [x]
theorem td (xs:List aB) (ws:List Int) (hl:xs.length < 2 ^ 30) (hs:ws.length < 2 ^ 30):Abs.Spec Tryz.prog 145 [] [.sl 4 (xs.map aB.cells),.sl 1 (ints ws)] [.own 4 ((eu xs ws).map aB.cells)] (.ref 0):=by
 refine bg 45 2 [.tmp 4] mixed Tryz.func145 ?_;simp only [go_sem,seval,aG];refine aC.walk (S:=Unit) xs.length [0,1] [] (fun i _=>[(6,.int .i64 i),(5,.ref 704)]) (fun i _=>[(704,.own 4 ((eu (xs.take i) ws).map aB.cells))]) (fun _ _=>True) () trivial ?_ ?_ ?_
 ·simp only [go_sem,seval]<;>simp [eu]
 ·intro i _ hi hdi hwi _;have hm:=aD (c:=aB.cells) xs hi;have hli:(i:Int) < (xs.length:Int):=by omega
  have hlt:(xs.take i).length=i:=by simp;omega
  have hA:eu (xs.take (i+1)) ws=eu (xs.take i) ws++_:=gm _ hi;have hAl:(eu (xs.take i) ws).length<=1*(xs.take i).length:=fu (fun x=>by split<;>simp) _;obtain ⟨L,hL⟩:=aL (eu (xs.take i) ws);obtain ⟨x,hx⟩:=aL (xs[i]);rw [<- hL] at hA hAl |-;rw [<- hx] at hA hm;simp only [aB.cells] at hm;simp only [go_sem,seval,aG,hdi,ay];refine aC.walk (S:=Unit) ws.length [0,1,5,6] [704] (fun k _=>[(8,.int .i64 k),(7,.bool (qF (ws.take k) x.who))]) (fun _ _=>[]) (fun _ _=>True) () trivial ?_ ?_ ?_
  ·simp only [go_sem,seval]<;>simp [qF]
  ·intro k _ hk hdk hwk _;have hst:=vX ws x.who hk;have hlk:(k:Int) < (ws.length:Int):=by omega
   cases hb:qF (ws.take k) x.who
   ·rw [hb,Bool.false_or] at hst;simp only [go_sem,seval,aG,ay,hdk,ints_at ws hk,hm,hwk];(with_reducible and_intros)<;>first|exact .dq|omega|skip
    refine ah.step () hk trivial ?_;simp only [go_sem,seval,hst]
   ·rw [hb,Bool.true_or] at hst;simp only [go_sem,seval,aG,ay,hdk,ints_at ws hk,hm,hwk];(with_reducible and_intros)<;>first|exact .dq|omega|skip
    refine ah.step () hk trivial ?_;simp only [go_sem,seval,hst]
  ·intro _ hdk _;cases b1:qF ws x.who
   ·simp only [b1,fZ,if_false] at hA;simp only [go_sem,seval,ay,aG,hdk,List.take_length,b1,hm,hwi];(with_reducible and_intros)<;>first|exact .dq|omega|skip
    refine ah.step () hi trivial ?_;simp only [go_sem,seval,hA]<;>simp
   ·simp only [b1,if_true,List.append_nil] at hA;simp only [go_sem,seval,ay,aG,hdk,List.take_length,b1,hm,hwi];(with_reducible and_intros)<;>first|exact .dq|omega|skip
    refine ah.step () hi trivial ?_;simp only [go_sem,seval,hA]<;>simp
 ·intro _ hdx _;simp only [go_sem,seval,ay,aG,hdx,List.take_length]
theorem zC (xs:List aB) (ws:List Int) (hl:xs.length < 2 ^ 30) (hs:ws.length < 2 ^ 30):Abs.Spec Tryz.prog 145 [] [.sl 4 (xs.map aB.cells),.sl 1 (ints ws)] [] (.sl 4 ((eu xs ws).map aB.cells)):=by
 refine Spec.frozen (td xs ws hl hs) [0] rfl ?_;intro r;rcases r with _ | r<;>rfl
def o9 (l:List aN):Bool:=l.all fun d=>bP d.bV
theorem uV (l:List aN) (hl:l.length < 2 ^ 40):Abs.Spec Tryz.prog 191 [] [.sl 3 (l.map aN.cells)] [] (.bool (o9 l)):=by
 refine bg 17 1 [.tmp 2] mixed Tryz.func191 ?_;simp only [go_sem,seval,aG];refine aC.walk (S:=Unit) l.length [0] [] (fun i _=>[(3,.int .i64 i)]) (fun _ _=>[]) (fun i _=>o9 (l.drop i)=o9 l) () rfl ?_ ?_ ?_
 ·simp only [go_sem,seval]<;>simp
 ·intro i _ hi hdi hwi hI;have hm:=aD (c:=aN.cells) l hi;obtain ⟨x,hx⟩:=aL (l[i]);have hN:=cY x.bV;have hli:(i:Int) < (l.length:Int):=by omega
  rw [dy hi,<- hx] at hI;rw [<- hx] at hm;have hc:o9 (x :: l.drop (i+1))=(bP x.bV&&o9 (l.drop (i+1))):=rfl;rw [hc] at hI;simp only [aN.cells] at hm;simp only [go_sem,seval,aG,hdi,hm];(with_reducible and_intros)<;>first|exact .dq|omega|skip
  refine aa.pure hN ?_;cases b2:bP x.bV
  ·rw [b2,Bool.false_and] at hI;simp only [go_sem,seval,<- hI]
  rw [b2,Bool.true_and] at hI;simp only [go_sem,seval,hwi];refine ah.step () hi hI ?_;simp only [go_sem,seval]
 ·intro _ hdx hI;rw [List.drop_length] at hI;rw [<- hI];simp only [go_sem,seval,aG,hdx];rfl
def EC (w c:Int) (d:aN):Bool:=d.who==w&&d.cur==c
def uv (w c:Int) (l:List aN):List Int:=pick (EC w c) aN.bV l
def kR (w c:Int) (l:List aN):Int:=if o9 l then (if bP (az (uv w c l)) then 0 else 1) else 3
def jg (w c:Int) (l:List aN):Int:=if kR w c l=0 then az (uv w c l) else 0
theorem uL (w c:Int) (l:List aN) (hl:l.length < 2 ^ 29):Abs.Spec Tryz.prog 147 [] [.int .i64 w,.int .i64 c,.sl 3 (l.map aN.cells)] [] (.bH [.int .i64 (jg w c l),.int .i64 (kR w c l)]):=by
 have hM:=uV l (by omega);refine bg 53 3 [.tmp 6,.tmp 7] mixed Tryz.func147 ?_;simp only [go_sem,seval];refine aa.pure hM ?_;cases b1:o9 l
 ·have e:kR w c l=3:=by simp [kR,b1]
  simp only [go_sem,seval,jg,e]<;>simp
 have e:kR w c l=if bP (az (uv w c l)) then 0 else 1:=by simp [kR,b1]
 have hmm:∀ x∈l,bP x.bV=true:=fun x hx=>List.all_eq_true.1 b1 x hx
 have hA:=cu (uv w c l) (ku fun x hx=>n5 (hmm x hx)) (by have:=bY (EC w c) aN.bV l;unfold uv;omega);simp only [jg];rw [e];clear e hM;simp only [go_sem,seval,aG];refine aC.walk (S:=Unit) l.length [0,1,2] [] (fun i _=>[(9,.int .i64 i),(8,.ref 720)]) (fun i _=>[(720,.own 1 (ints (uv w c (l.take i))))]) (fun _ _=>True) () trivial ?_ ?_ ?_
 ·simp only [go_sem,seval]<;>simp [uv,pick,ints]
 ·intro i _ hi hdi hwi _;have hm:=aD (c:=aN.cells) l hi;have hs:ints (uv w c (l.take (i+1)))=ints (uv w c (l.take i))++_:=fL (EC w c) aN.bV hi;have hlen:(uv w c (l.take i)).length<=(l.take i).length:=bY (EC w c) aN.bV (l.take i);have hlt:(l.take i).length=i:=by simp;omega
  have hli:(i:Int) < (l.length:Int):=by omega
  obtain ⟨x,hx⟩:=aL (l[i]);obtain ⟨L,hL⟩:=aL (uv w c (l.take i));rw [<- hL] at hs hlen |-;rw [<- hx] at hs hm;simp only [aN.cells] at hm;simp only [EC] at hs;cases q1:x.who==w
  ·simp only [q1,Bool.false_and,fZ,if_false,List.append_nil] at hs;simp only [go_sem,seval,aG,hdi,hm,q1,hwi];(with_reducible and_intros)<;>first|exact .dq|omega|skip
   refine ah.step () hi trivial ?_;simp only [go_sem,seval,hs]
  cases q2:x.cur==c
  ·simp only [q1,q2,Bool.and_false,fZ,if_false,List.append_nil] at hs;simp only [go_sem,seval,aG,hdi,hm,q1,q2,hwi];(with_reducible and_intros)<;>first|exact .dq|omega|skip
   refine ah.step () hi trivial ?_;simp only [go_sem,seval,hs]
  simp only [q1,q2,Bool.and_self,if_true] at hs;simp only [go_sem,seval,aG,hdi,hm,q1,q2,hwi,ay];(with_reducible and_intros)<;>first|exact .dq|omega|skip
  refine ah.step () hi trivial ?_;simp only [go_sem,seval,hs]
 ·intro _ hdx _;simp only [go_sem,seval,hdx,aG,List.take_length];refine aa.gen [] [] true (by simp) ?_;simp only [go_sem,seval];refine aY.intro hA ?_;cases b2:bP (az (uv w c l))
  ·simp only [go_sem,seval,b2,addN]<;>simp
  ·simp only [go_sem,seval,b2,addN]<;>simp
def jm (a b:aN):Bool:=decide (a.who < b.who)||(a.who==b.who&&decide (a.cur < b.cur))
theorem gp {a b:aN}:jm a b=true ↔ a.who < b.who\/(a.who=b.who/\a.cur < b.cur):=by simp [jm]
def aN.zero:aN:=⟨0,0,0⟩
def yP (f:Bool) (last:aN) (s:Bool × aN) (d:aN):Bool:=(f||jm last d)&&(!s.1||jm d s.2)
def gV (f:Bool) (last:aN):List aN->Bool × aN->Bool × aN
 | [],s=>s
 | d :: r,s=>gV f last r (if yP f last s d then (true,d) else s)
theorem yF {f:Bool} {last:aN}:∀ {l:List aN} {s:Bool × aN},(gV f last l s).1=true->gV f last l s=s\/((gV f last l s).2∈l/\(f||jm last (gV f last l s).2)=true)
 | [],s,_=>.inl rfl
 | d :: r,s,h=>by
  simp only [gV] at h |-;rcases yF (l:=r) h with e | ⟨h1,h2⟩
  ·rw [e];split
   ·rename_i hb;simp only [yP,bW] at hb;exact .inr ⟨by simp,hb.1⟩
   ·exact .inl rfl
  ·exact .inr ⟨by simp [h1],h2⟩
def LS (f:Bool) (last:aN) (l:List aN):Nat:=l.countP fun d=>f||jm last d
theorem Qu {A:Type} {p q:A->Bool}:∀ {l:List A} {d:A},(∀ x,p x=true->q x=true)->d∈l->q d=true->p d=false->l.countP p < l.countP q
 | [],d,_,h,_,_=>by cases h
 | x :: r,d,hpq,hm,hq,hp=>by
  have hle:r.countP p<=r.countP q:=List.countP_mono_left fun y _ h=>hpq y h
  simp only [List.countP_cons];rcases List.mem_cons.1 hm with rfl | hm
  ·rw [hq,hp];simp;omega
  ·have:=Qu hpq hm hq hp
   by_cases hx:p x=true
   ·rw [if_pos hx,if_pos (hpq x hx)];omega
   ·rw [if_neg hx];omega
theorem ER {f:Bool} {last d:aN} {l:List aN} (hm:d∈l) (hd:(f||jm last d)=true):LS false d l < LS f last l:=by
 refine Qu (fun x hx=>?_) hm hd ?_
 ·rw [Bool.false_or] at hx;cases f
  ·rw [Bool.false_or] at hd |-;rw [gp] at hx hd |-;omega
  ·rfl
 ·rw [Bool.false_or];cases h:jm d d
  ·rfl
  ·rw [gp] at h;omega
def Is (l:List aN) (d:aN):List aN:=if jg d.who d.cur l==0 then [] else [⟨d.who,d.cur,jg d.who d.cur l⟩]
def Ay (l:List aN):Nat->Bool->aN->List aN->List aN × Int
 | 0,_,_,out=>(out,0)
 | n+1,f,last,out =>
  if (gV f last l (false,.zero)).1 then
   (if kR (gV f last l (false,.zero)).2.who (gV f last l (false,.zero)).2.cur l=0 then Ay l n false (gV f last l (false,.zero)).2 (out++Is l (gV f last l (false,.zero)).2)
    else ([],kR (gV f last l (false,.zero)).2.who (gV f last l (false,.zero)).2.cur l))
  else (out,0)
def jq (l:List aN):List aN × Int:=if o9 l then Ay l (l.length+1) true .zero [] else ([],3)
theorem yz (w c:Int) (l:List aN):bP (jg w c l)=true:=by
 unfold jg;split
 ·rename_i h;unfold kR at h;split at h
  ·split at h
   ·assumption
   ·cases h
  ·cases h
 ·rfl
theorem Lq (l:List aN) (hl:l.length < 2 ^ 29):Abs.Spec Tryz.prog 136 [] [.sl 3 (l.map aN.cells)] [.own 3 ((jq l).1.map aN.cells)] (.bH [.ref 0,.int .i64 (jq l).2]):=by
 have hM:=uV l (by omega);have hG:=fun w c=>uL w c l hl
 have hLs:∀ a b:aN,Abs.Spec Tryz.prog 192 [] [.agg a.cells,.agg b.cells] [] (.bool (jm a b)):=fun a b=>vS a b
 refine bg 78 1 [.tmp 2,.tmp 3] mixed Tryz.func136 ?_;simp only [go_sem,seval];refine aa.pure hM ?_;cases b1:o9 l
 ·have e:jq l=([],3):=by simp [jq,b1]
  simp only [go_sem,seval,e]<;>simp
 have e:jq l=Ay l (l.length+1) true .zero []:=by simp [jq,b1]
 obtain ⟨R,hR⟩:=aL (jq l);rw [<- hR];rw [<- hR] at e;clear hR hM;simp only [go_sem,seval]
 refine aC.QI (T:=Nat × aN × List aN) [0,5] [] (fun s=>[(6,.int .i64 ((l.length+1-s.1:Nat):Int)),(4,.ref 1248)]) (fun s=>[(96,.box s.2.1.cells),(1248,.own 3 (s.2.2.map aN.cells))])
  (fun s=>LS (s.1==l.length+1) s.2.1 l+1<=s.1/\s.1<=l.length+1/\s.2.2.length+s.1<=l.length+1/\Ay l s.1 (s.1==l.length+1) s.2.1 s.2.2=R) (fun s=>s.1) (l.length+1,.zero,[]) ?_ ?_ ?_
 ·refine ⟨?_,Nat.le_refl _,by simp,by rw [e];simp⟩;have:LS (l.length+1==l.length+1) aN.zero l<=l.length:=List.countP_le_length
  show LS (l.length+1==l.length+1) aN.zero l+1<=l.length+1
  omega
 ·simp only [go_sem,seval,aN.zero]<;>simp
 rintro ⟨n,last,out⟩ ⟨h1,h2,h3,h4⟩
 dsimp only at h1 h2 h3 h4 |-;obtain ⟨m,rfl⟩:∃ m,n=m+1:=⟨n-1,by omega⟩
 have hk:l.length+1-(m+1)=l.length-m:=by omega
 obtain ⟨f,hf⟩:=aL ((m+1==l.length+1));have hf0:(((l.length-m:Nat):Int)==0)=f:=by rw [hf,Bool.eq_iff_iff];simp;omega
 rw [<- hf] at h1 h4;rw [hk];simp only [go_sem,seval];refine aC.walk (S:=Bool × aN) l.length [0,4,5,6,8] [96,1248] (fun i s=>[(9,.int .i64 i),(7,.bool s.1)]) (fun i s=>[(144,.box s.2.cells)]) (fun i s=>gV f last (l.drop i) s=gV f last l (false,.zero)) (false,.zero) rfl ?_ ?_ ?_
 ·simp only [go_sem,seval,aN.zero]<;>simp
 ·rintro i ⟨s1,s2⟩ hi hdi hwi hI
  have hm:=aD (c:=aN.cells) l hi;have hli:(i:Int) < (l.length:Int):=by omega
  obtain ⟨x,hx⟩:=aL (l[i]);have k1:=hLs last x;have k2:=hLs x s2;rw [dy hi,<- hx] at hI;rw [<- hx] at hm;simp only [gV,yP] at hI;simp only [aN.cells] at hm k1 k2;clear hG hLs h4;cases f
  ·simp only [go_sem,seval,aG,hdi,hm,hf0];(with_reducible and_intros)<;>first|exact .dq|omega|skip
   refine aa.pure k1 ?_;cases q1:jm last x
   ·simp only [q1,Bool.false_or,Bool.false_and,fZ,if_false] at hI;simp only [go_sem,seval,q1,hwi];(with_reducible and_intros)<;>first|exact .dq|omega|skip
    refine ah.step (s1,s2) hi hI ?_;simp only [go_sem,seval]
   cases s1
   ·simp only [q1,Bool.false_or,Bool.true_and,Bool.not_false,Bool.true_or,if_true] at hI;simp only [go_sem,seval,aG,q1,hm,hwi];(with_reducible and_intros)<;>first|exact .dq|omega|skip
    refine ah.step (true,x) hi hI ?_;simp only [go_sem,seval]
   simp only [go_sem,seval,q1,aG,hm];(with_reducible and_intros)<;>first|exact .dq|omega|skip
   refine aa.pure k2 ?_;cases q2:jm x s2
   ·simp only [q1,q2,Bool.false_or,Bool.true_and,Bool.not_true,fZ,if_false] at hI;simp only [go_sem,seval,q2,hwi];(with_reducible and_intros)<;>first|exact .dq|omega|skip
    refine ah.step (true,s2) hi hI ?_;simp only [go_sem,seval]
   simp only [q1,q2,Bool.false_or,Bool.true_and,Bool.not_true,Bool.or_true,if_true] at hI;simp only [go_sem,seval,q2,hwi,aG,hm];(with_reducible and_intros)<;>first|exact .dq|omega|skip
   refine ah.step (true,x) hi hI ?_;simp only [go_sem,seval]
  ·cases s1
   ·simp only [Bool.true_or,Bool.true_and,Bool.not_false,if_true] at hI;simp only [go_sem,seval,aG,hdi,hm,hf0,hwi];(with_reducible and_intros)<;>first|exact .dq|omega|skip
    refine ah.step (true,x) hi hI ?_;simp only [go_sem,seval]
   simp only [go_sem,seval,aG,hdi,hm,hf0];(with_reducible and_intros)<;>first|exact .dq|omega|skip
   refine aa.pure k2 ?_;cases q2:jm x s2
   ·simp only [q2,Bool.true_or,Bool.true_and,Bool.not_true,Bool.or_false,fZ,if_false] at hI;simp only [go_sem,seval,q2,hwi];(with_reducible and_intros)<;>first|exact .dq|omega|skip
    refine ah.step (true,s2) hi hI ?_;simp only [go_sem,seval]
   simp only [q2,Bool.true_or,Bool.true_and,Bool.not_true,Bool.or_true,if_true] at hI;simp only [go_sem,seval,q2,hwi,aG,hm];(with_reducible and_intros)<;>first|exact .dq|omega|skip
   refine ah.step (true,x) hi hI ?_;simp only [go_sem,seval]
 ·rintro ⟨s1,s2⟩ hdx hI
  rw [List.drop_length] at hI;have hI:gV f last l (false,.zero)=(s1,s2):=hI.symm;simp only [Ay,hI] at h4;have hG:=hG s2.who s2.cur;have hin:=cm.1 (yz s2.who s2.cur l);cases s1
  ·simp only [fZ,if_false] at h4;rw [<- h4];simp only [go_sem,seval,aG,hdx]
  have hmem:s2∈l/\(f||jm last s2)=true:=by
   have:=yF (f:=f) (last:=last) (l:=l) (s:=(false,.zero)) (by rw [hI]);rw [hI] at this;rcases this with h | h
   ·cases h
   ·exact h
  have hcn:=ER hmem.1 hmem.2;simp only [if_true] at h4;simp only [go_sem,seval,aG,hdx];(with_reducible and_intros)<;>first|exact .dq|omega|skip
  refine aa.pure hG ?_
  by_cases q1:kR s2.who s2.cur l=0
  case neg =>
   have d:(kR s2.who s2.cur l==0)=false:=by simpa using q1
   rw [if_neg q1] at h4;rw [<- h4];simp only [go_sem,seval,bne,d]
   all_goals simp
  rw [if_pos q1] at h4;have hwk:IntKind.wrap .i64 (((l.length-m:Nat):Int)+1)=((l.length+1-m:Nat):Int):=by rw [bz (by omega) (by omega)];omega
  have hfm:(m==l.length+1)=false:=by simp;omega
  simp only [Is] at h4;cases q2:jg s2.who s2.cur l==0
  ·simp only [q2,fZ,if_false] at h4;simp only [go_sem,seval,bne,q1,q2,hwk,aG];(with_reducible and_intros)<;>first|exact .dq|omega|skip
   refine ⟨(m,s2,out++[⟨s2.who,s2.cur,jg s2.who s2.cur l⟩]),⟨?_,by omega,by simp;omega,by simp only [hfm];exact h4⟩,?_,by simp⟩
   ·simp only [hfm];omega
   ·simp only [go_sem,seval]<;>simp
  ·simp only [q2,if_true,List.append_nil] at h4;simp only [go_sem,seval,bne,q1,q2,hwk];(with_reducible and_intros)<;>first|exact .dq|omega|skip
   refine ⟨(m,s2,out),⟨?_,by omega,by simp;omega,by simp only [hfm];exact h4⟩,?_,by simp⟩
   ·simp only [hfm];omega
   ·simp only [go_sem,seval]
theorem ze (l:List aN) (hl:l.length < 2 ^ 29):Abs.Spec Tryz.prog 136 [] [.sl 3 (l.map aN.cells)] [] (.bH [.sl 3 ((jq l).1.map aN.cells),.int .i64 (jq l).2]):=by
 refine Spec.frozen (Lq l hl) [0] rfl ?_;intro r;rcases r with _ | r<;>rfl
end Go.Proofs.YtnkobepdbkmedaaGreat
