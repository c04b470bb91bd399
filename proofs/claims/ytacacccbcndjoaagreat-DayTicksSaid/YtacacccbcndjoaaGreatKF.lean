/- The reference's postings: accounts, legs, and what follows. No theorem of a claim. -/
import Derived.Test.YtacacccbcndjoaaGreatKD
import Derived.Test.YtacacccbcndjoaaGreatAbcAuto
import Derived.Test.YtacacccbcndjoaaGreatKE
set_option linter.unusedSimpArgs false
set_option linter.unusedVariables false
set_option maxHeartbeats 4000000
set_option maxRecDepth 16000
namespace Go.Proofs.YtacacccbcndjoaaGreat
open Go.Abs
structure aS where
 kind:Int
 who:Int
 cur:Int
 bX:Int
deriving DecidableEq
@[reducible] def aS.cells (x:aS):List D:=[.int .i64 x.kind,.int .i64 x.who,.int .i64 x.cur,.int .i64 x.bX]
def aS.bK (x:aS):aJ:=⟨x.kind,x.who,x.cur⟩
def aS.dz (x:aS):Prop:=fy x.kind/\fy x.who/\fy x.cur/\fy x.bX
def acc (k w c:Nat):List aJ:=if aJ.right ⟨(k:Int)+1,w,c⟩ then [⟨(k:Int)+1,w,c⟩] else []
def yJ (k w:Nat) (i:Nat):List aJ:=(List.range i).flatMap (acc k w)
def yE (k:Nat) (i:Nat):List aJ:=(List.range i).flatMap fun w=>yJ k w 3
def Ch (i:Nat):List aJ:=(List.range i).flatMap fun k=>yE k 17
def gE:List aJ:=Ch 6
theorem KR (k w i:Nat):(yJ k w i).length<=i:=by
 have:=xM (f:=acc k w) (m:=1) (fun c=>by simp only [acc];split<;>simp) i;simpa [yJ] using this
theorem KL (k i:Nat):(yE k i).length<=3*i:=xM (fun w=>KR k w 3) i
theorem KI (i:Nat):(Ch i).length<=51*i:=xM (fun k=>KL k 17) i
theorem wo:gE.length<=306:=KI 6
theorem vU:Abs.Spec Tryz.prog 227 [] [.sl 1 [[.int .i64 1],[.int .i64 2],[.int .i64 3],[.int .i64 4],[.int .i64 5],[.int .i64 6]]] [.own 3 (gE.map aJ.cells)] (.ref 0):=by
 obtain ⟨ks,hks⟩:=aO ([1,2,3,4,5,(6:Int)]);have hl:ks.length=6:=by rw [hks];rfl
 have he:([[.int .i64 1],[.int .i64 2],[.int .i64 3],[.int .i64 4],[.int .i64 5],[.int .i64 6]]:List (List D))=ints ks:=by rw [hks];rfl
 have hin:∀ i:Nat,i < 6->qg ks ((i:Int)+1)=true:=fun i hi=>by
  rw [hks];simp only [qg,List.any_cons,List.any_nil,Bool.or_eq_true,beq_iff_eq];omega
 rw [he];clear he hks;refine aU 51 1 [.tmp 2] mixed Tryz.func227 ?_;simp only [go_sem,seval];refine aB.walk (S:=Unit) 6 [0] [] (fun i _=>[(4,.int .i64 ((i:Int)+1)),(3,.ref 800)]) (fun i _=>[(800,.own 3 ((Ch i).map aJ.cells))]) (fun _ _=>True) () trivial ?_ ?_ ?_
 ·simp only [go_sem,seval]<;>simp [Ch]
 ·intro k _ hk _ _ _;have hd:decide ((k:Int)+1<=6)=true:=decide_eq_true (by omega);have hwk:IntKind.wrap .i64 ((k:Int)+1+1)=((k+1:Nat):Int)+1:=by rw [bz (by omega) (by omega)];omega
  obtain ⟨K,hK⟩:=aO ((k:Int)+1);have hnext:Ch (k+1)=Ch k++yE k 17:=tK _ k;have hlen:=KI k;rw [<- hK] at hd hwk |-;simp only [go_sem,seval,hd,az,hl];refine aB.walk (S:=Unit) 6 [0,3,4] [800] (fun j _=>[(6,.int .i64 j),(5,.bool (qg (ks.take j) K))]) (fun _ _=>[]) (fun _ _=>True) () trivial ?_ ?_ ?_
  ·simp only [go_sem,seval]<;>simp [qg]
  ·intro j _ hj hdj hwj _;have hj':j < ks.length:=by omega
   have hst:=xA ks K hj';have hdj:decide ((j:Int) < 6)=true:=hdj;cases hb:qg (ks.take j) K
   ·rw [hb,Bool.false_or] at hst;simp only [go_sem,seval,az,hl,hdj,ints_at ks hj',hwj];(with_reducible and_intros)<;>first|exact .dq|omega|skip
    refine ah.step () hj trivial ?_;simp only [go_sem,seval,hst]
   ·rw [hb,Bool.true_or] at hst;simp only [go_sem,seval,az,hl,hdj,ints_at ks hj',hwj];(with_reducible and_intros)<;>first|exact .dq|omega|skip
    refine ah.step () hj trivial ?_;simp only [go_sem,seval,hst]
  intro _ hdj _;have hdj:decide ((6:Int) < 6)=false:=hdj;have hy:qg (ks.take 6) K=true:=by rw [<- hl,List.take_length,hK];exact hin k hk
  rw [hy];simp only [go_sem,seval,az,hl,hdj];refine aB.walk (S:=Unit) 17 [0,4,5] [] (fun j _=>[(7,.int .i64 j),(3,.ref 800)]) (fun j _=>[(800,.own 3 ((Ch k++yE k j).map aJ.cells))]) (fun _ _=>True) () trivial ?_ ?_ ?_
  ·simp only [go_sem,seval]<;>simp [yE]
  ·intro w _ hw hdw hww _;have hdw:decide ((w:Int)<=16)=true:=decide_eq_true (by omega);have hnw:yE k (w+1)=yE k w++yJ k w 3:=tK _ w;have hlw:=KL k w;simp only [go_sem,seval,hdw];refine aB.walk (S:=Unit) 3 [0,4,5,7] [] (fun j _=>[(8,.int .i64 j),(3,.ref 800)]) (fun j _=>[(800,.own 3 ((Ch k++yE k w++yJ k w j).map aJ.cells))]) (fun _ _=>True) () trivial ?_ ?_ ?_
   ·simp only [go_sem,seval]<;>simp [yJ]
   ·intro c _ hc hdc hwc _;have hdc:decide ((c:Int) < 3)=true:=hdc;have hnc:yJ k w (c+1)=yJ k w c++acc k w c:=tK _ c;have hlc:=KR k w c;have hR:=fL ⟨K,w,c⟩;simp only [aJ.cells] at hR;simp only [acc,<- hK] at hnc;simp only [go_sem,seval,hdc];(with_reducible and_intros)<;>first|exact .dq|omega|skip
    refine aa.pure hR ?_;cases hb:aJ.right ⟨K,w,c⟩
    ·rw [hb] at hnc;simp only [go_sem,seval,hwc];refine ah.step () hc trivial ?_;simp only [go_sem,seval,hnc]<;>simp
    ·rw [hb] at hnc;simp only [go_sem,seval,hwc,aI,List.length_append];(with_reducible and_intros)<;>first|exact .dq|omega|skip
     refine ah.step () hc trivial ?_;simp only [go_sem,seval,hnc]<;>simp [aJ.cells]
   ·intro _ hdc _;have hdc:decide ((3:Int) < 3)=false:=hdc;simp only [go_sem,seval,hdc,hww];refine ah.step () hw trivial ?_;simp only [go_sem,seval,hnw]<;>simp
  ·intro _ _ _;simp only [go_sem,seval,hwk];refine ah.step () hk trivial ?_;simp only [go_sem,seval,hnext]<;>simp
 ·intro _ _ _;simp only [go_sem,seval,gE]
def Nf (x:aS):Bool:=x.bK.right&&bS x.bX
def zF (l:List aS):Bool:=l.all Nf
theorem wO (l:List aS) (hl:l.length < 2 ^ 40):Abs.Spec Tryz.prog 268 [] [.sl 4 (l.map aS.cells)] [] (.bool (zF l)):=by
 refine aU 26 1 [.tmp 2] mixed Tryz.func268 ?_;simp only [go_sem,seval,aI];refine aB.walk (S:=Unit) l.length [0] [] (fun i _=>[(3,.int .i64 i)]) (fun _ _=>[]) (fun i _=>zF (l.drop i)=zF l) () rfl ?_ ?_ ?_
 ·simp only [go_sem,seval]<;>simp
 ·intro i _ hi hdi hwi hI;have hm:=aD (c:=aS.cells) l hi;obtain ⟨x,hx⟩:=aO (l[i]);have hR:=fL x.bK;have hN:=cY x.bX;have hli:(i:Int) < (l.length:Int):=by omega
  rw [dJ hi,<- hx] at hI;rw [<- hx] at hm;have hk:Nf x=(aJ.right ⟨x.kind,x.who,x.cur⟩&&bS x.bX):=rfl;simp only [zF,List.all_cons,hk] at hI;simp only [aS.cells] at hm;simp only [aJ.cells,aS.bK] at hR;simp only [go_sem,seval,aI,hdi,hm];(with_reducible and_intros)<;>first|exact .dq|omega|skip
  refine aa.pure hR ?_;cases b1:aJ.right ⟨x.kind,x.who,x.cur⟩
  ·rw [b1] at hI;simp only [go_sem,seval,zF,<- hI,Bool.false_and]
  simp only [go_sem,seval,aI,hm];(with_reducible and_intros)<;>first|exact .dq|omega|skip
  refine aa.pure hN ?_;cases b2:bS x.bX
  ·rw [b1,b2] at hI;simp only [go_sem,seval,zF,<- hI,Bool.false_and,Bool.and_false]
  rw [b1,b2,Bool.and_self,Bool.true_and] at hI;simp only [go_sem,seval,hwi];refine ah.step () hi hI ?_;simp only [go_sem,seval]
 ·intro _ hdx hI;rw [List.drop_length] at hI;simp only [go_sem,seval,aI,hdx,<- hI];rfl
def bP (a b:aJ) (n:Int):List aS:=[⟨a.kind,a.who,a.cur,-(if bS n then n else 0)⟩,⟨b.kind,b.who,b.cur,if bS n then n else 0⟩]
theorem GF (a b:aJ) (n:Int):Abs.Spec Tryz.prog 80 [] [.agg a.cells,.agg b.cells,.int .i64 n] [.own 4 ((bP a b n).map aS.cells)] (.ref 0):=by
 have hN:=cY n;have hw:bS n=true->IntKind.wrap .i64 (0-n) = -n:=fun h=>by have:=cR.1 h;rw [bz (by omega) (by omega)];omega
 simp only [aJ.cells];refine aU 18 3 [.tmp 6] mixed Tryz.func80 ?_;simp only [go_sem,seval];refine aa.pure hN ?_;cases b1:bS n
 ·simp only [go_sem,seval,bP,b1]<;>simp;rfl
 ·simp only [go_sem,seval,bP,b1,hw b1]<;>simp
theorem iu (a b:aJ) (n:Int):Abs.Spec Tryz.prog 80 [] [.agg a.cells,.agg b.cells,.int .i64 n] [] (.sl 4 ((bP a b n).map aS.cells)):=by
 refine Spec.frozen (GF a b n) [0] rfl ?_;intro r;rcases r with _ | r<;>rfl
def pick {A:Type} (p:A->Bool) (f:A->Int) (xs:List A):List Int:=xs.flatMap fun x=>if p x then [f x] else []
theorem Fu {A:Type} (p:A->Bool) (f:A->Int) {xs:List A} {i:Nat} (h:i < xs.length):pick p f (xs.take (i+1))=pick p f (xs.take i)++(if p xs[i] then [f xs[i]] else []):=fA _ h
theorem bY {A:Type} (p:A->Bool) (f:A->Int) (xs:List A):(pick p f xs).length<=xs.length:=by
 have:=dZ (f:=fun x=>if p x then [f x] else []) (m:=1) (fun x=>by split<;>simp) xs;simpa [pick] using this
theorem kj {A:Type} {p:A->Bool} {f:A->Int} {xs:List A} {R:Int->Prop} (h:∀ x∈xs,R (f x)):∀ n∈pick p f xs,R n:=by
 intro n hn;obtain ⟨x,hx,hn⟩:=List.mem_flatMap.1 hn;split at hn
 ·obtain rfl:n=f x:=by simpa using hn
  exact h x hx
 ·cases hn
theorem fJ {A:Type} (p:A->Bool) (f:A->Int) {xs:List A} {i:Nat} (h:i < xs.length):ints (pick p f (xs.take (i+1)))=ints (pick p f (xs.take i))++(if p xs[i] then [[.int .i64 (f xs[i])]] else []):=by
 rw [Fu p f h];unfold ints;rw [List.map_append];split<;>rfl
theorem aa7 (l:List Int):(bS (aC l)&&addN l==0)=(aC l==0):=by
 unfold addN;cases h:bS (aC l)
 ·have:aC l≠0:=fun e=>by rw [e] at h;cases h
  simp [this]
 ·simp
theorem Ck {l:List aS} (h:zF l=true):∀ x∈l,x.bK.right=true/\bS x.bX=true:=fun x hx=>by
 have:=List.all_eq_true.1 h x hx;simpa only [Nf,cg] using this
def qx (c:Int) (l:List aS):List Int:=pick (fun x=>x.cur==c) aS.bX l
def yW (l:List aS):Bool:=(List.range 3).all fun c=>aC (qx c l)==0
def rW (l:List aS):Int:=if l.length=0 then 2 else if 64 < l.length then 5 else if zF l then (if yW l then 0 else 12) else 3
theorem CA (l:List aS) (hl:l.length < 2 ^ 30):Abs.Spec Tryz.prog 226 [] [.sl 4 (l.map aS.cells)] [] (.int .i64 (rW l)):=by
 have hM:=wO l (by omega);refine aU 54 1 [.tmp 2] mixed Tryz.func226 ?_;simp only [go_sem,seval,aI]
 by_cases h0:l.length=0
 ·have d:((l.length:Int)==0)=true:=by simp [h0]
  have e:rW l=2:=by simp [rW,h0]
  simp only [go_sem,seval,d,e]
 have d0:((l.length:Int)==0)=false:=by simpa using h0
 by_cases h1:64 < l.length
 ·have d:decide (64 < (l.length:Int))=true:=decide_eq_true (by omega);have e:rW l=5:=by simp only [rW];rw [if_neg h0,if_pos h1]
  simp only [go_sem,seval,d0,d,e,aI]
 have d1:decide (64 < (l.length:Int))=false:=decide_eq_false (by omega);simp only [go_sem,seval,d0,d1,aI];refine aa.pure hM ?_;cases b1:zF l
 ·have e:rW l=3:=by simp only [rW];rw [if_neg h0,if_neg h1,b1];rfl
  simp only [go_sem,seval,e]
 have e:rW l=if yW l then 0 else 12:=by simp only [rW];rw [if_neg h0,if_neg h1,b1];rfl
 have hmm:=Ck b1;rw [e];clear e d0 d1 hM;simp only [go_sem,seval];refine aB.walk (S:=Unit) 3 [0] [] (fun i _=>[(3,.int .i64 i)]) (fun _ _=>[]) (fun i _=>∀ c < i,(aC (qx (c:Nat) l)==0)=true) () (by simp) ?_ ?_ ?_
 ·simp only [go_sem,seval]<;>simp
 ·intro c _ hc hdc hwc hI;have hdc:decide ((c:Int) < 3)=true:=hdc;have hA:=cu (qx c l) (kj fun x hx=>n8 (hmm x hx).2) (by have:=bY (fun x:aS=>x.cur==(c:Int)) aS.bX l;unfold qx;omega);have h0:=aa7 (qx c l);simp only [go_sem,seval,hdc,aI];refine aB.walk (S:=Unit) l.length [0,3] [] (fun i _=>[(5,.int .i64 i),(4,.ref 688)]) (fun i _=>[(688,.own 1 (ints (qx c (l.take i))))]) (fun _ _=>True) () trivial ?_ ?_ ?_
  ·simp only [go_sem,seval]<;>simp [qx,pick,ints]
  ·intro i _ hi hdi hwi _;have hm:=aD (c:=aS.cells) l hi;have hs:ints (qx c (l.take (i+1)))=_:=fJ (fun x:aS=>x.cur==(c:Int)) aS.bX hi;have hlen:=bY (fun x:aS=>x.cur==(c:Int)) aS.bX (l.take i);have hlt:(l.take i).length=i:=by simp;omega
   have hli:(i:Int) < (l.length:Int):=by omega
   have hlen:(qx c (l.take i)).length<=i:=by unfold qx;omega
   obtain ⟨x,hx⟩:=aO (l[i]);rw [<- hx] at hs hm;simp only [aS.cells] at hm;simp only [go_sem,seval,aI,hdi,hm];(with_reducible and_intros)<;>first|exact .dq|omega|skip
   cases hb:x.cur==(c:Int)
   ·simp only [hb,ir,if_false,if_true,List.append_nil] at hs;simp only [go_sem,seval,hwi];refine ah.step () hi trivial ?_;simp only [go_sem,seval,hs]<;>simp [qx]
   ·simp only [hb,ir,if_false,if_true,List.append_nil] at hs;simp only [go_sem,seval,hwi,az,aI,hm];(with_reducible and_intros)<;>first|exact .dq|omega|skip
    refine ah.step () hi trivial ?_;simp only [go_sem,seval,hs]<;>simp [qx]
  ·intro _ hdx _;simp only [go_sem,seval,hdx,aI,List.take_length];refine aa.gen [] [] true (by simp) ?_;simp only [go_sem,seval];refine bg.intro hA ?_;cases b1:bS (aC (qx c l))
   ·have:yW l=false:=by
     rw [yW,List.all_eq_false];exact ⟨c,List.mem_range.2 hc,by rw [b1] at h0;rw [<- h0];simp⟩
    simp only [go_sem,seval,b1,this]
   cases b2:addN (qx c l)==0
   ·have:yW l=false:=by
     rw [yW,List.all_eq_false];exact ⟨c,List.mem_range.2 hc,by rw [b1,b2] at h0;rw [<- h0];simp⟩
    simp only [go_sem,seval,b1,bne,b2,this]
   rw [b1,b2] at h0;simp only [go_sem,seval,b1,bne,b2,hwc];refine ah.step () hc ?_ ?_
   ·intro k hk;rcases Nat.lt_or_ge k c with h | h
    ·exact hI k h
    ·obtain rfl:k=c:=by omega
     exact h0.symm
   ·simp only [go_sem,seval]
 ·intro _ hdc hI;have hdc:decide ((3:Int) < 3)=false:=hdc;have:yW l=true:=List.all_eq_true.2 fun c hc=>hI c (List.mem_range.1 hc)
  simp only [go_sem,seval,hdc,this]
def dM (a:aJ) (l:List aS):List Int:=pick (fun x=>x.bK.same a) aS.bX l
def Cq (a:aJ) (n:Int):List aS:=if n==0 then [] else [⟨a.kind,a.who,a.cur,n⟩]
def xy (l:List aS) (ys:List aJ):List aS:=ys.flatMap fun a=>Cq a (aC (dM a l))
def rj (l:List aS) (ys:List aJ):Bool:=ys.all fun a=>bS (aC (dM a l))
def mX (l:List aS):Int:=if zF l then (if rj l gE then 0 else 1) else 3
def iY (l:List aS):List aS:=if mX l=0 then xy l gE else []
theorem RC (a:aJ) (n:Int):(Cq a n).length<=1:=by unfold Cq;split<;>simp
theorem FM (l:List aS) (ys:List aJ):(xy l ys).length<=ys.length:=by
 have:=dZ (f:=fun a=>Cq a (aC (dM a l))) (m:=1) (fun a=>RC _ _) ys;simpa [xy] using this
theorem G4 (l:List aS) (hl:l.length < 2 ^ 29):Abs.Spec Tryz.prog 244 [] [.sl 4 (l.map aS.cells)] [.own 4 ((iY l).map aS.cells)] (.bD [.ref 0,.int .i64 (mX l)]):=by
 have hM:=wO l (by omega);have hAll:=vU;refine aU 65 1 [.tmp 2,.tmp 3] mixed Tryz.func244 ?_;simp only [go_sem,seval];refine aa.pure hM ?_;cases b1:zF l
 ·have e:mX l=3:=by simp [mX,b1]
  have e2:iY l=[]:=by simp [iY,e]
  simp only [go_sem,seval,e,e2]<;>simp
 have e:mX l=if rj l gE then 0 else 1:=by simp [mX,b1]
 have e2:iY l=if rj l gE then xy l gE else []:=by simp only [iY,e];cases rj l gE<;>simp
 have hmm:=Ck b1;have hal:=wo;rw [e,e2];clear e e2 hM;obtain ⟨ys,has⟩:=aO (gE);rw [<- has] at hAll hal |-;clear has;simp only [go_sem,seval];refine aa.gen [240] [] false (by simp) ?_;simp only [go_sem,seval];refine bg.intro hAll ?_;simp only [go_sem,seval,aI];refine aB.walk (S:=Unit) ys.length [0,5] [256] (fun i _=>[(6,.int .i64 i),(4,.ref 1024)]) (fun i _=>[(1024,.own 4 ((xy l (ys.take i)).map aS.cells))]) (fun i _=>rj l (ys.drop i)=rj l ys) () rfl ?_ ?_ ?_
 ·simp only [go_sem,seval]<;>simp [xy]
 ·intro k _ hk hdk hwk hI;have hma:=aD (c:=aJ.cells) ys hk;have hlk:(k:Int) < (ys.length:Int):=by omega
  have hnx:xy l (ys.take (k+1))=xy l (ys.take k)++_:=fA _ hk;have hjl:=FM l (ys.take k);have hjt:(ys.take k).length=k:=by simp;omega
  obtain ⟨a,ha⟩:=aO (ys[k]);rw [dJ hk,<- ha] at hI;simp only [rj,List.all_cons] at hI;rw [<- ha] at hma hnx;have hA:=cu (dM a l) (kj fun x hx=>n8 (hmm x hx).2) (by have:=bY (fun x:aS=>x.bK.same a) aS.bX l;unfold dM;omega);simp only [aJ.cells] at hma;simp only [go_sem,seval,hdk,aI];refine aB.walk (S:=Unit) l.length [0,4,5,6] [256,1024] (fun i _=>[(8,.int .i64 i),(7,.ref 736)]) (fun i _=>[(736,.own 1 (ints (dM a (l.take i))))]) (fun _ _=>True) () trivial ?_ ?_ ?_
  ·simp only [go_sem,seval]<;>simp [dM,pick,ints]
  ·intro i _ hi hdi hwi _;have hm:=aD (c:=aS.cells) l hi;have hs:ints (dM a (l.take (i+1)))=ints (dM a (l.take i))++_:=fJ (fun x:aS=>x.bK.same a) aS.bX hi;have hlen:=bY (fun x:aS=>x.bK.same a) aS.bX (l.take i);have hlt:(l.take i).length=i:=by simp;omega
   have hli:(i:Int) < (l.length:Int):=by omega
   have hlen:(dM a (l.take i)).length<=i:=by unfold dM;omega
   obtain ⟨x,hx⟩:=aO (l[i]);have hS:Abs.Spec Tryz.prog 193 [] [.agg [.int .i64 x.kind,.int .i64 x.who,.int .i64 x.cur],.agg [.int .i64 a.kind,.int .i64 a.who,.int .i64 a.cur]] [] (.bool (x.bK.same a)):=o9 x.bK a;rw [<- hx] at hs hm;simp only [aS.cells] at hm;simp only [go_sem,seval,aI,hdi,hm,hma];(with_reducible and_intros)<;>first|exact .dq|omega|skip
   refine aa.pure hS ?_;cases hb:x.bK.same a
   ·simp only [hb,ir,if_false,if_true,List.append_nil] at hs;simp only [go_sem,seval,hwi];refine ah.step () hi trivial ?_;simp only [go_sem,seval,hs]
   ·simp only [hb,ir,if_false,if_true,List.append_nil] at hs;simp only [go_sem,seval,hwi,az,aI,hm];(with_reducible and_intros)<;>first|exact .dq|omega|skip
    refine ah.step () hi trivial ?_;simp only [go_sem,seval,hs]
  ·intro _ hdx _;simp only [go_sem,seval,hdx,aI,List.take_length];refine aa.gen [] [] true (by simp) ?_;simp only [go_sem,seval];refine bg.intro hA ?_;cases b1:bS (aC (dM a l))
   ·rw [b1,Bool.false_and] at hI;have:rj l ys=false:=hI.symm;simp only [go_sem,seval,b1,this]<;>simp
   rw [b1,Bool.true_and] at hI;have hn:addN (dM a l)=aC (dM a l):=by simp [addN,b1]
   rw [hn];cases b2:aC (dM a l)==0
   ·simp only [Cq,b2] at hnx;simp only [go_sem,seval,b1,bne,b2,hwk,hma,aI];(with_reducible and_intros)<;>first|exact .dq|omega|skip
    refine ah.step () hk hI ?_;simp only [go_sem,seval,hnx]<;>simp
   ·simp only [Cq,b2] at hnx;simp only [go_sem,seval,b1,bne,b2,hwk];refine ah.step () hk hI ?_;simp only [go_sem,seval,hnx]<;>simp
 ·intro _ hdx hI;rw [List.drop_length] at hI;have:rj l ys=true:=hI.symm;simp only [go_sem,seval,hdx,aI,this,List.take_length]<;>simp
theorem lZ (l:List aS) (hl:l.length < 2 ^ 29):Abs.Spec Tryz.prog 244 [] [.sl 4 (l.map aS.cells)] [] (.bD [.sl 4 ((iY l).map aS.cells),.int .i64 (mX l)]):=by
 refine Spec.frozen (G4 l hl) [0] rfl ?_;intro r;rcases r with _ | r<;>rfl
def mI (l:bn) (g:List aS) (a:aJ):Int:=aC (gG a l.bs :: dM a g)
def pX (a:aJ) (n:Int):List bJ:=if n==0 then [] else [⟨a.kind,a.who,a.cur,n⟩]
def Ef (l:bn) (g:List aS) (ys:List aJ):List bJ:=ys.flatMap fun a=>pX a (mI l g a)
def xF (l:bn) (g:List aS) (ys:List aJ):Bool:=ys.all fun a=>bS (mI l g a)
def sW (l:bn) (g:List aS) (ys:List aJ):Bool:=ys.any fun a=>decide (mI l g a < a.floor)
def eO (l:bn) (id:Int) (g:List aS):Int:=
 if l.okB then (if within id 1 1099511627776 then (if id<=l.last then 18 else if rW g=0 then (if xF l g gE then (if sW l g gE then 13 else 0) else 1) else rW g) else 3) else 14
def gH (l:bn) (id:Int) (g:List aS):bn:=if eO l id g=0 then ⟨id,Ef l g gE⟩ else ⟨0,[]⟩
theorem Kj (a:aJ) (n:Int):(pX a n).length<=1:=by unfold pX;split<;>simp
theorem IW (l:bn) (g:List aS) (ys:List aJ):(Ef l g ys).length<=ys.length:=by
 have:=dZ (f:=fun a=>pX a (mI l g a)) (m:=1) (fun a=>Kj _ _) ys;simpa [Ef] using this
theorem IB {g:List aS} (h:rW g=0):zF g=true/\yW g=true/\g.length<=64:=by
 unfold rW at h;split at h
 ·cases h
 split at h
 ·cases h
 split at h
 ·split at h
  ·rename_i h1 h2 h3 h4;exact ⟨h3,h4,by omega⟩
  ·cases h
 ·cases h
theorem HV (l:bn) (id:Int) (g:List aS) (hl:l.bs.length < 2 ^ 30) (hr:∀ b∈l.bs,b.dz) (hg:g.length < 2 ^ 29):Abs.Spec Tryz.prog 167 [] [.agg l.cells,.int .i64 id,.sl 4 (g.map aS.cells)] [.own 4 ((gH l id g).bs.map bJ.cells)] (.bD [.agg [.int .i64 (gH l id g).last,.ref 0],.int .i64 (eO l id g)]):=by
 have hL:=ig l hl hr;have hC:=CA g (by omega);have hAll:=vU;have hO:=fun a=>jQ l a hl
 have hor:=fun a=>Nl (a:=a) hr
 simp only [bn.cells,aJ.cells] at hL hO |-;refine aU 116 3 [.cell 6 36,.tmp 7] mixed Tryz.func167 ?_;simp only [go_sem,seval];refine aa.pure hL ?_;cases b1:l.okB
 ·have e:eO l id g=14:=by simp [eO,b1]
  simp only [go_sem,seval,gH,e]<;>simp
 cases b2:within id 1 1099511627776
 ·have e:eO l id g=3:=by simp [eO,b1,b2]
  simp only [within,Bool.and_eq_false_iff,decide_eq_false_iff_not] at b2
  by_cases h:id < 1
  ·have d:decide (id < 1)=true:=decide_eq_true h;simp only [go_sem,seval,d,gH,e]<;>simp
  ·have d:decide (id < 1)=false:=decide_eq_false h;have d2:decide (1099511627776 < id)=true:=decide_eq_true (by omega);simp only [go_sem,seval,d,d2,gH,e]<;>simp
 have d1:decide (id < 1)=false:=by simp only [within,cg,decide_eq_true_eq] at b2;exact decide_eq_false (by omega)
 have d2:decide (1099511627776 < id)=false:=by simp only [within,cg,decide_eq_true_eq] at b2;exact decide_eq_false (by omega)
 by_cases h3:id<=l.last
 ·have d3:decide (id<=l.last)=true:=decide_eq_true h3;have e:eO l id g=18:=by simp [eO,b1,b2,h3]
  simp only [go_sem,seval,d1,d2,d3,gH,e]<;>simp
 have d3:decide (id<=l.last)=false:=decide_eq_false h3;simp only [go_sem,seval,d1,d2,d3];refine aa.pure hC ?_;cases b4:rW g==0
 ·have h4:rW g≠0:=by simpa using b4
  have e:eO l id g=rW g:=by simp [eO,b1,b2,h3,h4]
  have e2:gH l id g=⟨0,[]⟩:=by simp [gH,e,h4]
  simp only [go_sem,seval,bne,b4,e,e2]<;>simp
 have h4:rW g=0:=by simpa using b4
 have e:eO l id g=if xF l g gE then (if sW l g gE then 13 else 0) else 1:=by simp [eO,b1,b2,h3,h4]
 have hmm:=Ck (IB h4).1;have hal:=wo;simp only [gH];rw [e];clear e hL hC b2 d1 d2 d3;obtain ⟨ys,has⟩:=aO (gE);rw [<- has] at hAll hal |-;clear has;simp only [go_sem,seval,bne,b4];refine aa.gen [704] [] false (by simp) ?_;simp only [go_sem,seval];refine bg.intro hAll ?_;simp only [go_sem,seval,aI];refine aB.walk (S:=Unit) ys.length [2,3,6,8,10,12] [64,112,144,720] (fun i _=>[(13,.int .i64 i),(11,.bool (sW l g (ys.take i)))]) (fun i _=>[(176,.box [.int .i64 id,.ref 1792]),(1792,.own 4 ((Ef l g (ys.take i)).map bJ.cells))]) (fun i _=>xF l g (ys.drop i)=xF l g ys) () rfl ?_ ?_ ?_
 ·simp only [go_sem,seval]<;>simp [Ef,sW]
 ·intro k _ hk hdk hwk hI;have hma:=aD (c:=aJ.cells) ys hk;have hlk:(k:Int) < (ys.length:Int):=by omega
  have hnx:Ef l g (ys.take (k+1))=Ef l g (ys.take k)++_:=fA _ hk
  have hnf:sW l g (ys.take (k+1))=(sW l g (ys.take k)||decide (mI l g ys[k] < ys[k].floor)):=by
   simp only [sW];rw [List.take_succ_eq_append_getElem hk,List.any_append];simp
  have hjl:=IW l g (ys.take k);have hjt:(ys.take k).length=k:=by simp;omega
  obtain ⟨a,ha⟩:=aO (ys[k]);rw [dJ hk,<- ha] at hI;simp only [xF,List.all_cons] at hI;rw [<- ha] at hma hnx hnf
  have hA:=cu (gG a l.bs :: dM a g) (fun n hn=>by
   rcases List.mem_cons.1 hn with rfl | hn
   ·exact hor a
   ·exact kj (fun x hx=>n8 (hmm x hx).2) n hn) (by have:=bY (fun x:aS=>x.bK.same a) aS.bX g;simp only [List.length_cons,dM];omega)
  have hF:=tB a;have hOa:=hO a;simp only [aJ.cells] at hma hF hOa;clear hO;simp only [go_sem,seval,hdk,aI,hma];(with_reducible and_intros)<;>first|exact .dq|omega|skip
  refine aa.pure hOa ?_;simp only [go_sem,seval,aI];refine aB.walk (S:=Unit) g.length [2,3,6,8,10,11,12,13] [64,112,144,176,720,1792] (fun i _=>[(15,.int .i64 i),(14,.ref 1312)]) (fun i _=>[(1312,.own 1 (ints (gG a l.bs :: dM a (g.take i))))]) (fun _ _=>True) () trivial ?_ ?_ ?_
  ·simp only [go_sem,seval]<;>simp [dM,pick,ints]
  ·intro i _ hi hdi hwi _;have hm:=aD (c:=aS.cells) g hi;have hs:ints (dM a (g.take (i+1)))=ints (dM a (g.take i))++_:=fJ (fun x:aS=>x.bK.same a) aS.bX hi;have hlen:=bY (fun x:aS=>x.bK.same a) aS.bX (g.take i);have hlt:(g.take i).length=i:=by simp;omega
   have hli:(i:Int) < (g.length:Int):=by omega
   have hlen:(gG a l.bs :: dM a (g.take i)).length<=i+1:=by simp only [List.length_cons,dM];omega
   obtain ⟨x,hx⟩:=aO (g[i]);rw [<- hx] at hs;have hs:ints (gG a l.bs :: dM a (g.take (i+1)))=ints (gG a l.bs :: dM a (g.take i))++(if x.bK.same a then [[.int .i64 x.bX]] else []):=congrArg (fun z:List (List D)=>([D.int .i64 (gG a l.bs)]:List D) :: z) hs;obtain ⟨L,hL⟩:=aO (gG a l.bs :: dM a (g.take i));have hS:Abs.Spec Tryz.prog 193 [] [.agg [.int .i64 x.kind,.int .i64 x.who,.int .i64 x.cur],.agg [.int .i64 a.kind,.int .i64 a.who,.int .i64 a.cur]] [] (.bool (x.bK.same a)):=o9 x.bK a;rw [<- hL] at hs;rw [<- hx] at hm;rw [<- hL] at hlen |-;simp only [aS.cells] at hm;simp only [go_sem,seval,aI,hdi,hm,hma];(with_reducible and_intros)<;>first|exact .dq|omega|skip
   refine aa.pure hS ?_;cases hb:x.bK.same a
   ·simp only [hb,ir,if_false,if_true,List.append_nil] at hs;simp only [go_sem,seval,hwi];refine ah.step () hi trivial ?_;simp only [go_sem,seval,hs]<;>simp
   ·simp only [hb,ir,if_false,if_true,List.append_nil] at hs;simp only [go_sem,seval,hwi,az,aI,hm];(with_reducible and_intros)<;>first|exact .dq|omega|skip
    refine ah.step () hi trivial ?_;simp only [go_sem,seval,hs]<;>simp
  ·intro _ hdx _;simp only [go_sem,seval,hdx,aI,List.take_length];refine aa.gen [] [] true (by simp) ?_;simp only [go_sem,seval];refine bg.intro hA ?_;have hS:aC (gG a l.bs :: dM a g)=mI l g a:=rfl;have hn:bS (mI l g a)=true->addN (gG a l.bs :: dM a g)=mI l g a:=fun h=>by simp [addN,hS,h]
   rw [hS];cases b1:bS (mI l g a)
   ·rw [b1,Bool.false_and] at hI;have:xF l g ys=false:=hI.symm;simp only [go_sem,seval,b1,this]<;>simp
   rw [b1,Bool.true_and] at hI;rw [hn b1];cases b3:sW l g (ys.take k)
   case true =>
    rw [b3,Bool.true_or] at hnf;cases b2:mI l g a==0
    ·simp only [pX,b2] at hnx;simp only [go_sem,seval,b1,b3,bne,b2,hwk,hma,aI];(with_reducible and_intros)<;>first|exact .dq|omega|skip
     refine ah.step () hk hI ?_;simp only [go_sem,seval,hnx,hnf]<;>simp
    ·simp only [pX,b2] at hnx;simp only [go_sem,seval,b1,b3,bne,b2,hwk];refine ah.step () hk hI ?_;simp only [go_sem,seval,hnx,hnf]<;>simp
   rw [b3,Bool.false_or] at hnf;simp only [go_sem,seval,b1,b3,bne,hma,aI];(with_reducible and_intros)<;>first|exact .dq|omega|skip
   refine aa.pure hF ?_;cases b2:mI l g a==0
   ·simp only [pX,b2] at hnx;simp only [go_sem,seval,b2,hwk,hma,aI,bne];(with_reducible and_intros)<;>first|exact .dq|omega|skip
    refine ah.step () hk hI ?_;simp only [go_sem,seval,hnx,hnf]<;>simp
   ·simp only [pX,b2] at hnx;simp only [go_sem,seval,b2,bne,hwk];refine ah.step () hk hI ?_;simp only [go_sem,seval,hnx,hnf]<;>simp
 ·intro _ hdx hI;rw [List.drop_length] at hI;have:xF l g ys=true:=hI.symm;cases b5:sW l g ys
  ·simp only [go_sem,seval,hdx,aI,this,List.take_length,b5]<;>simp
  ·simp only [go_sem,seval,hdx,aI,this,List.take_length,b5]<;>simp
theorem pH (l:bn) (id:Int) (g:List aS) (hl:l.bs.length < 2 ^ 30) (hr:∀ b∈l.bs,b.dz) (hg:g.length < 2 ^ 29):Abs.Spec Tryz.prog 167 [] [.agg l.cells,.int .i64 id,.sl 4 (g.map aS.cells)] [] (.bD [.agg (gH l id g).cells,.int .i64 (eO l id g)]):=by
 refine Spec.frozen (HV l id g hl hr hg) [0] rfl ?_;intro r;rcases r with _ | r<;>rfl
theorem mK (r:aq) (h:r.gZ):Abs.Spec Tryz.prog 94 [] [.agg r.cells] [] (.agg r.cells):=by
 refine Spec.frozen (l6 r h) [0,1,2] rfl ?_;intro r;rcases r with _ | _ | _ | r<;>rfl
theorem Da (r:aq) (h:r.gZ):Abs.Spec Tryz.prog 94 [] [.agg r.cells] [.undef,.own 12 (r.ns.map ay.cells)] (.agg [.sl 3 (r.ms.map ak.cells),.ref 1,.sl 4 (r.xs.map av.cells)]):=by
 refine Spec.frozen (l6 r h) [0,2] rfl ?_;intro r;rcases r with _ | _ | _ | r<;>rfl
theorem Lx (r:aq) (h:r.gZ):Abs.Spec Tryz.prog 94 [] [.agg r.cells] [.own 3 (r.ms.map ak.cells)] (.agg [.ref 0,.sl 12 (r.ns.map ay.cells),.sl 4 (r.xs.map av.cells)]):=by
 refine Spec.frozen (l6 r h) [1,2] rfl ?_;intro r;rcases r with _ | _ | _ | r<;>rfl
def oq {B:Type} (f:Nat->List B) (i:Nat):List B:=(List.range i).flatMap f
theorem iZ {B:Type} (f:Nat->List B) (i:Nat):oq f (i+1)=oq f i++f i:=tK f i
theorem kE {B:Type} {f:Nat->List B} {m:Nat} (h:∀ a,(f a).length<=m) (i:Nat):(oq f i).length<=m*i:=xM h i
theorem kn {B:Type} (f:Nat->List B):oq f 0=[]:=rfl
def aq.none:aq:=⟨[],[],[]⟩
def iR (r:aq) (w n:Int):Int:=if r.okB then (if ak.ok ⟨w,1,n⟩ then (if eo r w then 11 else 0) else 3) else 14
def H9 (r:aq) (m:ak) (i:Nat):List ak:=(if eo r ((i:Int)+1) then [eV r ((i:Int)+1)] else [])++(if (i:Int)+1==m.no then [m] else [])
def jG (r:aq) (w n:Int):aq:=if iR r w n=0 then ⟨oq (H9 r ⟨w,1,n⟩) 16,r.ns,r.xs⟩ else .none
theorem PJ (r:aq) (m:ak) (i:Nat):(H9 r m i).length<=2:=by unfold H9;split<;>split<;>simp
theorem GW (r:aq) (w n:Int) (h:r.gZ):Abs.Spec Tryz.prog 71 [] [.agg r.cells,.int .i64 w,.int .i64 n] [.own 3 ((jG r w n).ms.map ak.cells)] (.bD [.agg [.ref 0,.sl 12 ((jG r w n).ns.map ay.cells),.sl 4 ((jG r w n).xs.map av.cells)],.int .i64 (iR r w n)]):=by
 have c1:=dK r h.small;have c2:=sL ⟨w,1,n⟩;have c3:=fun n=>bV r n h.small
 have c4:=mK r h;simp only [aq.cells] at c1 c3 c4 |-;simp only [ak.cells] at c2;refine aU 64 3 [.cell 6 29,.tmp 7] mixed Tryz.func71 ?_;simp only [go_sem,seval];(with_reducible and_intros)<;>first|exact .dq|omega|skip
 refine aa.pure c1 ?_;cases b1:r.okB
 ·have e:iR r w n=14:=by simp [iR,b1]
  simp only [go_sem,seval,jG,e]<;>simp [aq.none]
 simp only [go_sem,seval];(with_reducible and_intros)<;>first|exact .dq|omega|skip
 refine aa.pure c2 ?_;cases b2:ak.ok ⟨w,1,n⟩
 ·have e:iR r w n=3:=by simp [iR,b1,b2]
  simp only [go_sem,seval,jG,e]<;>simp [aq.none]
 have c3w:=c3 w;obtain ⟨g,hg⟩:=aO (eV r w);rw [<- hg] at c3w;simp only [ak.cells] at c3w;simp only [go_sem,seval];(with_reducible and_intros)<;>first|exact .dq|omega|skip
 refine aa.pure c3w ?_;cases b3:eo r w
 case true =>
  have e:iR r w n=11:=by simp [iR,b1,b2,b3]
  simp only [go_sem,seval,jG,e,b3]<;>simp [aq.none]
 have e:iR r w n=0:=by simp [iR,b1,b2,b3]
 simp only [go_sem,seval,jG,e,b3];(with_reducible and_intros)<;>first|exact .dq|omega|skip
 refine aa.pure c4 ?_;clear c1 c2 c4 c3w hg;simp only [go_sem,seval];(with_reducible and_intros)<;>first|exact .dq|omega|skip
 refine aB.walk (S:=Unit) 16 [1,3,6,8,11] [64,112,144] (fun i _=>[(12,.int .i64 ((i:Int)+1))]) (fun i _=>[(192,.box [.ref 992,.sl 12 (r.ns.map ay.cells),.sl 4 (r.xs.map av.cells)]),(992,.own 3 ((oq (H9 r ⟨w,1,n⟩) i).map ak.cells))]) (fun _ _=>True) () trivial ?_ ?_ ?_
 ·simp only [go_sem,seval,kn]<;>simp
 ·intro i _ hi _ _ _;have hd:decide ((i:Int)+1<=16)=true:=decide_eq_true (by omega);have hw:IntKind.wrap .i64 ((i:Int)+1+1)=((i+1:Nat):Int)+1:=by rw [bz (by omega) (by omega)];omega
  have hs:=iZ (H9 r ⟨w,1,n⟩) i;have hl:=kE (PJ r ⟨w,1,n⟩) i;obtain ⟨L,hL⟩:=aO (oq (H9 r ⟨w,1,n⟩) i);obtain ⟨k,hk⟩:=aO ((i:Int)+1);have c3k:=c3 k;obtain ⟨g,hg⟩:=aO (eV r k);rw [<- hL] at hs hl |-;simp only [H9,<- hk] at hs;rw [<- hg] at c3k hs;rw [<- hk] at hd hw |-;simp only [ak.cells] at c3k;clear c3 hL;simp only [go_sem,seval,hd];(with_reducible and_intros)<;>first|exact .dq|omega|skip
  refine aa.pure c3k ?_
  cases q1:eo r k<;>cases q2:k==w<;>(
   simp only [q1,q2] at hs;simp only [go_sem,seval,q1,q2,hw,aI,List.length_append];(with_reducible and_intros)<;>first|exact .dq|omega|skip
   try refine ah.step () hi trivial ?_
   try simp only [go_sem,seval,hs])
  all_goals simp
 ·intro _ _ _;simp only [go_sem,seval]<;>simp
theorem D2 (r:aq) (w n:Int) (h:r.gZ):Abs.Spec Tryz.prog 71 [] [.agg r.cells,.int .i64 w,.int .i64 n] [] (.bD [.agg (jG r w n).cells,.int .i64 (iR r w n)]):=by
 refine Spec.frozen (GW r w n h) [0] rfl ?_;intro r;rcases r with _ | r<;>rfl
def ay.bare (i:ay):ay:={ i with set:=0,aR:=0 }
def mC (r:aq) (i:ay):Int:=if r.okB then (if i.bare.ok then (if bf r i.no then 11 else 0) else 3) else 14
def EA (r:aq) (m:ay) (i:Nat):List ay:=(if bf r ((i:Int)+1) then [aV r ((i:Int)+1)] else [])++(if (i:Int)+1==m.no then [m] else [])
def n6 (r:aq) (i:ay):aq:=if mC r i=0 then ⟨r.ms,oq (EA r i.bare) 8,r.xs⟩ else .none
theorem Ry (r:aq) (m:ay) (i:Nat):(EA r m i).length<=2:=by unfold EA;split<;>split<;>simp
theorem Kn (r:aq) (x:ay) (h:r.gZ):Abs.Spec Tryz.prog 72 [] [.agg r.cells,.agg x.cells] [.own 12 ((n6 r x).ns.map ay.cells)] (.bD [.agg [.sl 3 ((n6 r x).ms.map ak.cells),.ref 0,.sl 4 ((n6 r x).xs.map av.cells)],.int .i64 (mC r x)]):=by
 have c1:=dK r h.small;have c2:=rJ x.bare;have c3:=fun n=>dc r n h.small
 have c4:=mK r h;simp only [aq.cells] at c1 c3 c4 |-;simp only [ay.cells,ay.bare] at c2;refine aU 62 2 [.cell 4 29,.tmp 5] mixed Tryz.func72 ?_;simp only [go_sem,seval,ay.cells];(with_reducible and_intros)<;>first|exact .dq|omega|skip
 refine aa.pure c1 ?_;cases b1:r.okB
 ·have e:mC r x=14:=by simp [mC,b1]
  simp only [go_sem,seval,n6,e]<;>simp [aq.none]
 simp only [go_sem,seval];(with_reducible and_intros)<;>first|exact .dq|omega|skip
 refine aa.pure c2 ?_;cases b2:x.bare.ok
 ·have e:mC r x=3:=by simp [mC,b1,b2]
  simp only [ay.bare] at b2;simp only [go_sem,seval,b2,n6,e]<;>simp [aq.none]
 have b2':=b2;simp only [ay.bare] at b2';have c3w:=c3 x.no;obtain ⟨g,hg⟩:=aO (aV r x.no);rw [<- hg] at c3w;simp only [ay.cells] at c3w;simp only [go_sem,seval,b2'];(with_reducible and_intros)<;>first|exact .dq|omega|skip
 refine aa.pure c3w ?_;cases b3:bf r x.no
 case true =>
  have e:mC r x=11:=by simp [mC,b1,b2,b3]
  simp only [go_sem,seval,n6,e,b3]<;>simp [aq.none]
 have e:mC r x=0:=by simp [mC,b1,b2,b3]
 simp only [go_sem,seval,n6,e,b3];(with_reducible and_intros)<;>first|exact .dq|omega|skip
 refine aa.pure c4 ?_;clear c1 c2 c4 c3w hg;simp only [go_sem,seval];(with_reducible and_intros)<;>first|exact .dq|omega|skip
 refine aB.walk (S:=Unit) 8 [2,3,4,8] [48,64,80] (fun i _=>[(9,.int .i64 ((i:Int)+1))]) (fun i _=>[(144,.box [.sl 3 (r.ms.map ak.cells),.ref 960,.sl 4 (r.xs.map av.cells)]),(960,.own 12 ((oq (EA r x.bare) i).map ay.cells))]) (fun _ _=>True) () trivial ?_ ?_ ?_
 ·simp only [go_sem,seval,kn]<;>simp
 ·intro i _ hi _ _ _;have hd:decide ((i:Int)+1<=8)=true:=decide_eq_true (by omega);have hw:IntKind.wrap .i64 ((i:Int)+1+1)=((i+1:Nat):Int)+1:=by rw [bz (by omega) (by omega)];omega
  have hs:=iZ (EA r x.bare) i;have hl:=kE (Ry r x.bare) i;obtain ⟨L,hL⟩:=aO (oq (EA r x.bare) i);obtain ⟨k,hk⟩:=aO ((i:Int)+1);have c3k:=c3 k;obtain ⟨g,hg⟩:=aO (aV r k);rw [<- hL] at hs hl |-;simp only [EA,<- hk,ay.bare] at hs;rw [<- hg] at c3k hs;rw [<- hk] at hd hw |-;simp only [ay.cells] at c3k;clear c3 hL;simp only [go_sem,seval,hd];(with_reducible and_intros)<;>first|exact .dq|omega|skip
  refine aa.pure c3k ?_
  cases q1:bf r k<;>cases q2:k==x.no<;>(
   simp only [q1,q2] at hs;simp only [go_sem,seval,q1,q2,hw,aI,List.length_append];(with_reducible and_intros)<;>first|exact .dq|omega|skip
   try refine ah.step () hi trivial ?_
   try simp only [go_sem,seval,hs,ay.bare,ay.cells])
  all_goals simp [ay.cells]
 ·intro _ _ _;simp only [go_sem,seval]<;>simp
theorem HB (r:aq) (x:ay) (h:r.gZ):Abs.Spec Tryz.prog 72 [] [.agg r.cells,.agg x.cells] [] (.bD [.agg (n6 r x).cells,.int .i64 (mC r x)]):=by
 refine Spec.frozen (Kn r x h) [0] rfl ?_;intro r;rcases r with _ | r<;>rfl
def lu (r:aq) (n:Int):av:=fP av.a n ⟨0,0,0,0⟩ r.xs
def mu (r:aq) (a:av):Int:=if r.okB then (if a.ok&&!(jr r a.a&&!((lu r a.a).b==a.b)) then 0 else 3) else 14
def GL (r:aq) (a:av) (i:Nat):List av:=if (i:Int)+1==a.a then [a] else if jr r ((i:Int)+1) then [lu r ((i:Int)+1)] else []
def nO (r:aq) (a:av):aq:=if mu r a=0 then ⟨r.ms,r.ns,oq (GL r a) 6⟩ else .none
theorem RN (r:aq) (m:av) (i:Nat):(GL r m i).length<=1:=by
 unfold GL;split
 ·simp
 ·split<;>simp
theorem Ix (r:aq) (a:av) (h:r.gZ):Abs.Spec Tryz.prog 73 [] [.agg r.cells,.agg a.cells] [.own 4 ((nO r a).xs.map av.cells)] (.bD [.agg [.sl 3 ((nO r a).ms.map ak.cells),.sl 12 ((nO r a).ns.map ay.cells),.ref 0],.int .i64 (mu r a)]):=by
 have c1:=dK r h.small;have c2:=oY a;have c3:∀ n,Abs.Spec Tryz.prog 159 [] [.agg r.cells,.int .i64 n] [] (.bD [.agg (lu r n).cells,.bool (jr r n)]):=fun n=>kJ r n h.small
 have c4:=mK r h;simp only [aq.cells] at c1 c3 c4 |-;simp only [av.cells] at c2;have c3w:=c3 a.a;obtain ⟨g,hg⟩:=aO (lu r a.a);rw [<- hg] at c3w;simp only [av.cells] at c3w;refine aU 68 2 [.cell 4 29,.tmp 5] mixed Tryz.func73 ?_;simp only [go_sem,seval,av.cells];(with_reducible and_intros)<;>first|exact .dq|omega|skip
 refine aa.pure c1 ?_;cases b1:r.okB
 ·have e:mu r a=14:=by simp [mu,b1]
  simp only [go_sem,seval,nO,e]<;>simp [aq.none]
 simp only [go_sem,seval];(with_reducible and_intros)<;>first|exact .dq|omega|skip
 refine aa.pure c3w ?_;simp only [go_sem,seval];(with_reducible and_intros)<;>first|exact .dq|omega|skip
 refine aa.pure c2 ?_;cases b2:a.ok
 ·have e:mu r a=3:=by simp [mu,b1,b2]
  simp only [go_sem,seval,nO,e]<;>simp [aq.none]
 cases b3:jr r a.a&&!(g.b==a.b)
 case true =>
  have e:mu r a=3:=by simp only [mu,b1,b2,<- hg,b3];rfl
  simp only [cg,Bool.not_eq_true'] at b3;simp only [go_sem,seval,nO,e,b3.1,b3.2,bne,Bool.not_false]<;>simp [aq.none]
 have e:mu r a=0:=by simp only [mu,b1,b2,<- hg,b3];rfl
 have hfin:∀ {Q:Prop},Q->Q:=fun q=>q
 cases q1:jr r a.a<;>cases q2:g.b==a.b<;>(try (rw [q1,q2] at b3;exact absurd b3 (by decide)))
 all_goals simp only [go_sem,seval,nO,e,q1,q2,bne]
 all_goals (with_reducible and_intros)<;>first|exact .dq|omega|skip
 all_goals refine aa.pure c4 ?_
 all_goals clear c1 c2 c4 c3w hg q1 q2 b3
 all_goals simp only [go_sem,seval]
 all_goals (with_reducible and_intros)<;>first|exact .dq|omega|skip
 all_goals refine aB.walk (S:=Unit) 6 [2,3,4,8] [48,64,80] (fun i _=>[(9,.int .i64 ((i:Int)+1))]) (fun i _=>[(144,.box [.sl 3 (r.ms.map ak.cells),.sl 12 (r.ns.map ay.cells),.ref 1056]),(1056,.own 4 ((oq (GL r a) i).map av.cells))]) (fun _ _=>True) () trivial ?_ ?_ ?_
 all_goals try (simp only [go_sem,seval,kn]<;>simp;done)
 all_goals
  intro i _ hi _ _ _;have hd:decide ((i:Int)+1<=6)=true:=decide_eq_true (by omega);have hw:IntKind.wrap .i64 ((i:Int)+1+1)=((i+1:Nat):Int)+1:=by rw [bz (by omega) (by omega)];omega
  have hs:=iZ (GL r a) i;have hl:=kE (RN r a) i;obtain ⟨L,hL⟩:=aO (oq (GL r a) i);obtain ⟨k,hk⟩:=aO ((i:Int)+1);have c3k:=c3 k;obtain ⟨g,hg⟩:=aO (lu r k);rw [<- hL] at hs hl |-;simp only [GL,<- hk] at hs;rw [<- hg] at c3k hs;rw [<- hk] at hd hw |-;simp only [av.cells] at c3k;clear c3 hL;simp only [go_sem,seval,hd];(with_reducible and_intros)<;>first|exact .dq|omega|skip
  refine aa.pure c3k ?_
  cases q2:k==a.a<;>cases q1:jr r k<;>(
   simp only [q1,q2] at hs;simp only [go_sem,seval,q1,q2,hw,aI,List.length_append];(with_reducible and_intros)<;>first|exact .dq|omega|skip
   try refine ah.step () hi trivial ?_
   try simp only [go_sem,seval,hs])
  all_goals simp
theorem HU (r:aq) (a:av) (h:r.gZ):Abs.Spec Tryz.prog 73 [] [.agg r.cells,.agg a.cells] [] (.bD [.agg (nO r a).cells,.int .i64 (mu r a)]):=by
 refine Spec.frozen (Ix r a h) [0] rfl ?_;intro r;rcases r with _ | r<;>rfl
def rT {A:Type} (no:A->Int) (n:Int) (f:A->A):List A->List A
 | []=>[]
 | x :: r=>if no x=n then f x :: r else x :: rT no n f r
theorem wj {A:Type} {no:A->Int} {n:Int} {f:A->A}:∀ {xs:List A} {i:Nat} (h:i < xs.length),(∀ j (hj:j < xs.length),j < i->no xs[j]≠n)->no xs[i]=n->rT no n f xs=xs.set i (f xs[i])
 | [],i,h,_,_=>by simp at h
 | x :: r,0,h,_,he=>by
  have he:no x=n:=he;simp [rT,he]
 | x :: r,i+1,h,hn,he=>by
  have h0:no x≠n:=hn 0 (by simp) (by omega);have h1:=wj (f:=f) (xs:=r) (i:=i) (by simpa using h) (fun j hj hji=>hn (j+1) (by simpa using hj) (by omega)) he;simp only [rT,if_neg h0,h1,List.getElem_cons_succ,List.set_cons_succ]
theorem Ga {A:Type} {no:A->Int} {n:Int} {xs:List A} {i:Nat} (hI:∀ j (hj:j < xs.length),j < i->no xs[j]≠n) (h:i < xs.length) (hb:(no xs[i]==n)=false):∀ j (hj:j < xs.length),j < i+1->no xs[j]≠n:=by
 intro j hj hji;rcases Nat.lt_or_ge j i with h | h
 ·exact hI j hj h
 ·obtain rfl:j=i:=by omega
  simpa using hb
def uV (r:aq) (n p:Int):Int:=if r.okB then (if bf r n then (if within p 1 1073741824 then 0 else 3) else 10) else 14
def ay.told (p:Int) (x:ay):ay:={ x with set:=p }
def uM (r:aq) (n p:Int):aq:=if uV r n p=0 then ⟨r.ms,rT ay.no n (ay.told p) r.ns,r.xs⟩ else .none
theorem JK (r:aq) (n p:Int) (h:r.gZ):Abs.Spec Tryz.prog 171 [] [.agg r.cells,.int .i64 n,.int .i64 p] [.own 12 ((uM r n p).ns.map ay.cells)] (.bD [.agg [.sl 3 ((uM r n p).ms.map ak.cells),.ref 0,.sl 4 ((uM r n p).xs.map av.cells)],.int .i64 (uV r n p)]):=by
 have c1:=dK r h.small;have c4:=Da r h;have c5:=bk p 1 1073741824;have hl:=h.2.1;simp only [aq.cells] at c1 c4 |-;refine aU 43 3 [.cell 6 29,.tmp 7] mixed Tryz.func171 ?_;simp only [go_sem,seval];(with_reducible and_intros)<;>first|exact .dq|omega|skip
 refine aa.pure c1 ?_;cases b1:r.okB
 ·have e:uV r n p=14:=by simp [uV,b1]
  simp only [go_sem,seval,uM,e]<;>simp [aq.none]
 have e:uV r n p=if bf r n then (if within p 1 1073741824 then 0 else 3) else 10:=by simp [uV,b1]
 simp only [uM];rw [e];clear e c1;simp only [go_sem,seval];(with_reducible and_intros)<;>first|exact .dq|omega|skip
 refine aa.gen [] [] false (by simp) ?_;simp only [go_sem,seval];refine bg.intro c4 ?_;simp only [go_sem,seval];refine aB.walk (S:=Unit) r.ns.length [1,2,6,8] [112,144,257] (fun i _=>[(9,.int .i64 i)]) (fun _ _=>[]) (fun i _=>∀ j (hj:j < r.ns.length),j < i->r.ns[j].no≠n) () (by intros;omega) ?_ ?_ ?_
 ·simp only [go_sem,seval]<;>simp
 ·intro i _ hi hdi hwi hI;have hm:=aD (c:=ay.cells) r.ns hi;have hli:(i:Int) < (r.ns.length:Int):=by omega
  obtain ⟨x,hx⟩:=aO (r.ns[i]);have hnext:=Ga hI hi;rw [<- hx] at hm hnext;simp only [ay.cells] at hm;simp only [go_sem,seval,aI,hdi,hm];(with_reducible and_intros)<;>first|exact .dq|omega|skip
  cases b2:x.no==n
  ·simp only [go_sem,seval,hwi];refine ah.step () hi (hnext b2) ?_;simp only [go_sem,seval]
  have hxn:r.ns[i].no=n:=by rw [<- hx];simpa using b2
  obtain ⟨g1,g2⟩:=iV (z:=ay.zero) hi hI hxn;have hu:=wj (f:=ay.told p) hi hI hxn;have e1:bf r n=true:=by simp [bf,g2]
  rw [e1];simp only [go_sem,seval];refine aa.pure c5 ?_;cases b3:within p 1 1073741824
  ·simp only [go_sem,seval]<;>simp [aq.none]
  rw [hu,<- hx];simp only [go_sem,seval,aI,hm];(with_reducible and_intros)<;>first|exact .dq|omega|skip
  all_goals simp [ay.told,List.map_set]
 ·intro _ hdx hI;obtain ⟨g1,g2⟩:=gB (z:=ay.zero) (fun j hj=>hI j hj hj);have e1:bf r n=false:=by simp [bf,g2]
  rw [e1];simp only [go_sem,seval,aI,hdx]<;>simp [aq.none]
theorem Ht (r:aq) (n p:Int) (h:r.gZ):Abs.Spec Tryz.prog 171 [] [.agg r.cells,.int .i64 n,.int .i64 p] [] (.bD [.agg (uM r n p).cells,.int .i64 (uV r n p)]):=by
 refine Spec.frozen (JK r n p h) [0] rfl ?_;intro r;rcases r with _ | r<;>rfl
def vV (r:aq) (n p:Int):Int:=if r.okB then (if eo r n then (if within p 1 3 then 0 else 3) else 10) else 14
def ak.put (p:Int) (x:ak):ak:={ x with state:=p }
def gp (r:aq) (n p:Int):aq:=if vV r n p=0 then ⟨rT ak.no n (ak.put p) r.ms,r.ns,r.xs⟩ else .none
theorem Mf (r:aq) (n p:Int) (h:r.gZ):Abs.Spec Tryz.prog 185 [] [.agg r.cells,.int .i64 n,.int .i64 p] [.own 3 ((gp r n p).ms.map ak.cells)] (.bD [.agg [.ref 0,.sl 12 ((gp r n p).ns.map ay.cells),.sl 4 ((gp r n p).xs.map av.cells)],.int .i64 (vV r n p)]):=by
 have c1:=dK r h.small;have c4:=Lx r h;have c5:=bk p 1 3;have hl:=h.1;simp only [aq.cells] at c1 c4 |-;refine aU 43 3 [.cell 6 29,.tmp 7] mixed Tryz.func185 ?_;simp only [go_sem,seval];(with_reducible and_intros)<;>first|exact .dq|omega|skip
 refine aa.pure c1 ?_;cases b1:r.okB
 ·have e:vV r n p=14:=by simp [vV,b1]
  simp only [go_sem,seval,gp,e]<;>simp [aq.none]
 have e:vV r n p=if eo r n then (if within p 1 3 then 0 else 3) else 10:=by simp [vV,b1]
 simp only [gp];rw [e];clear e c1;simp only [go_sem,seval];(with_reducible and_intros)<;>first|exact .dq|omega|skip
 refine aa.gen [] [] false (by simp) ?_;simp only [go_sem,seval];refine bg.intro c4 ?_;simp only [go_sem,seval];refine aB.walk (S:=Unit) r.ms.length [1,2,6,8] [112,144,256] (fun i _=>[(9,.int .i64 i)]) (fun _ _=>[]) (fun i _=>∀ j (hj:j < r.ms.length),j < i->r.ms[j].no≠n) () (by intros;omega) ?_ ?_ ?_
 ·simp only [go_sem,seval]<;>simp
 ·intro i _ hi hdi hwi hI;have hm:=aD (c:=ak.cells) r.ms hi;have hli:(i:Int) < (r.ms.length:Int):=by omega
  obtain ⟨x,hx⟩:=aO (r.ms[i]);have hnext:=Ga hI hi;rw [<- hx] at hm hnext;simp only [ak.cells] at hm;simp only [go_sem,seval,aI,hdi,hm];(with_reducible and_intros)<;>first|exact .dq|omega|skip
  cases b2:x.no==n
  ·simp only [go_sem,seval,hwi];refine ah.step () hi (hnext b2) ?_;simp only [go_sem,seval]
  have hxn:r.ms[i].no=n:=by rw [<- hx];simpa using b2
  obtain ⟨g1,g2⟩:=iV (z:=ak.zero) hi hI hxn;have hu:=wj (f:=ak.put p) hi hI hxn;have e1:eo r n=true:=by simp [eo,g2]
  rw [e1];simp only [go_sem,seval];refine aa.pure c5 ?_;cases b3:within p 1 3
  ·simp only [go_sem,seval]<;>simp [aq.none]
  rw [hu,<- hx];simp only [go_sem,seval,aI,hm];(with_reducible and_intros)<;>first|exact .dq|omega|skip
  all_goals simp [ak.put,List.map_set]
 ·intro _ hdx hI;obtain ⟨g1,g2⟩:=gB (z:=ak.zero) (fun j hj=>hI j hj hj);have e1:eo r n=false:=by simp [eo,g2]
  rw [e1];simp only [go_sem,seval,aI,hdx]<;>simp [aq.none]
theorem zm (r:aq) (n p:Int) (h:r.gZ):Abs.Spec Tryz.prog 185 [] [.agg r.cells,.int .i64 n,.int .i64 p] [] (.bD [.agg (gp r n p).cells,.int .i64 (vV r n p)]):=by
 refine Spec.frozen (Mf r n p h) [0] rfl ?_;intro r;rcases r with _ | r<;>rfl
def oz {A:Type} (f:A->A) (xs:List A) (i:Nat):List A:=(xs.take i).map f++xs.drop i
theorem Fg {A:Type} (f:A->A) (xs:List A):oz f xs 0=xs:=by simp [oz]
theorem Cf {A:Type} (f:A->A) (xs:List A):oz f xs xs.length=xs.map f:=by simp [oz]
theorem sE {A:Type} (f:A->A) (xs:List A) (i:Nat):(oz f xs i).length=xs.length:=by simp [oz];omega
theorem HE {A:Type} (f:A->A) {xs:List A} {i:Nat} (h:i < xs.length):(oz f xs i)[i]'(by rw [sE];exact h)=xs[i]:=by
 have hl:((xs.take i).map f).length=i:=by simp;omega
 simp only [oz];rw [List.getElem_append_right (by omega)];simp [Nat.min_eq_left (Nat.le_of_lt h)]
theorem CG {A:Type} (f:A->A) {xs:List A} {i:Nat} (h:i < xs.length):(oz f xs i).set i (f xs[i])=oz f xs (i+1):=by
 have hl:((xs.take i).map f).length=i:=by simp;omega
 simp only [oz];rw [List.set_append_right _ _ (by omega),hl,Nat.sub_self,List.drop_eq_getElem_cons h,List.set_cons_zero,List.take_succ_eq_append_getElem h,List.map_append,List.append_assoc];rfl
theorem Pa {A:Type} (f:A->A) {xs:List A} {i:Nat} (h:i < xs.length) (hf:f xs[i]=xs[i]):oz f xs (i+1)=oz f xs i:=by
 rw [<- CG f h,hf]
 conv=>lhs;rw [<- HE f h]
 exact List.set_getElem_self _
def ay.pO (x:ay):ay:=if x.set==0 then x else { x with aR:=x.set,set:=0 }
def KM (r:aq):aq:=⟨r.ms,r.ns.map ay.pO,r.xs⟩
theorem IK (r:aq) (h:r.gZ):Abs.Spec Tryz.prog 179 [] [.agg r.cells] [.own 12 (r.ns.map ay.pO |>.map ay.cells)] (.agg [.sl 3 (r.ms.map ak.cells),.ref 0,.sl 4 (r.xs.map av.cells)]):=by
 have c4:=Da r h;have hl:=h.2.1;simp only [aq.cells] at c4 |-;refine aU 38 1 [.cell 2 29] mixed Tryz.func179 ?_;simp only [go_sem,seval];(with_reducible and_intros)<;>first|exact .dq|omega|skip
 refine aa.gen [] [] false (by simp) ?_;simp only [go_sem,seval];refine bg.intro c4 ?_;simp only [go_sem,seval];(with_reducible and_intros)<;>first|exact .dq|omega|skip
 refine aB.walk (S:=Unit) r.ns.length [2,3] [48] (fun i _=>[(4,.int .i64 i)]) (fun i _=>[(64,.box [.sl 3 (r.ms.map ak.cells),.ref 368,.sl 4 (r.xs.map av.cells)]),(368,.own 12 ((oz ay.pO r.ns i).map ay.cells))]) (fun _ _=>True) () trivial ?_ ?_ ?_
 ·simp only [go_sem,seval,Fg]<;>simp
 ·intro i _ hi hdi hwi _;have hlen:=sE ay.pO r.ns i;have hi2:i < (oz ay.pO r.ns i).length:=by omega
  have hm:=aD (c:=ay.cells) (oz ay.pO r.ns i) hi2;have hat:=HE ay.pO hi;have hset:=CG ay.pO hi;have hsame:=Pa ay.pO hi;have hli:(i:Int) < (r.ns.length:Int):=by omega
  obtain ⟨x,hx⟩:=aO (r.ns[i]);rw [hat] at hm;rw [<- hx] at hm hset hsame;obtain ⟨M,hM⟩:=aO (oz ay.pO r.ns i);rw [<- hM] at hm hset hsame hlen |-;simp only [ay.cells] at hm;simp only [go_sem,seval,aI,hlen,hdi,hm];(with_reducible and_intros)<;>first|exact .dq|omega|skip
  cases b2:x.set==0
  ·have hset:M.set i { x with aR:=x.set,set:=0 }=oz ay.pO r.ns (i+1):=by rw [<- hset];simp only [ay.pO,b2];rfl
   have hsa:∀ Z,((M.map ay.cells).set i Z).getD i []=Z:=fun Z=>by simp [hlen,hi]
   simp only [go_sem,seval,bne,b2,aI,hlen,hm,hwi,hsa];(with_reducible and_intros)<;>first|exact .dq|omega|skip
   all_goals first
    | (simp only [List.length_set,aI];omega)
    | (refine ah.step () hi trivial ?_
       simp only [go_sem,seval,<- hset,List.map_set,List.set_set,hsa])
  ·have hsame:=hsame (by simp [ay.pO,b2]);simp only [go_sem,seval,bne,b2,hwi];refine ah.step () hi trivial ?_;simp only [go_sem,seval,hsame]
 ·intro _ hdx _;have hlen:=sE ay.pO r.ns r.ns.length;simp only [go_sem,seval,aI,hlen,hdx,Cf]
theorem GG (r:aq) (h:r.gZ):Abs.Spec Tryz.prog 179 [] [.agg r.cells] [] (.agg (KM r).cells):=by
 refine Spec.frozen (IK r h) [0] rfl ?_;intro r;rcases r with _ | r<;>rfl
def mN (r:aq) (ss:List Int):List Int:=pick (fun m:ak=>qg ss m.state) ak.no r.ms
theorem Gr (r:aq) (ss:List Int) (h:r.gZ) (hs:ss.length < 2 ^ 30):Abs.Spec Tryz.prog 180 [] [.agg r.cells,.sl 1 (ints ss)] [.own 1 (ints (mN r ss))] (.ref 0):=by
 have hl:=h.1;simp only [aq.cells];refine aU 47 2 [.tmp 4] mixed Tryz.func180 ?_;simp only [go_sem,seval];refine aB.walk (S:=Unit) r.ms.length [1,2] [48] (fun i _=>[(6,.int .i64 i),(5,.ref 736)]) (fun i _=>[(736,.own 1 (ints (pick (fun m:ak=>qg ss m.state) ak.no (r.ms.take i))))]) (fun _ _=>True) () trivial ?_ ?_ ?_
 ·simp only [go_sem,seval]<;>simp [pick,ints]
 ·intro i _ hi hdi hwi _;have hm:=aD (c:=ak.cells) r.ms hi;have hst:=fJ (fun m:ak=>qg ss m.state) ak.no hi;have hlen:=bY (fun m:ak=>qg ss m.state) ak.no (r.ms.take i);have hlt:(r.ms.take i).length=i:=by simp;omega
  have hli:(i:Int) < (r.ms.length:Int):=by omega
  obtain ⟨L,hL⟩:=aO (pick (fun m:ak=>qg ss m.state) ak.no (r.ms.take i));obtain ⟨x,hx⟩:=aO (r.ms[i]);rw [<- hx] at hm hst;rw [<- hL] at hst hlen |-;simp only [ak.cells] at hm;simp only [go_sem,seval,aI,hdi,az];refine aB.walk (S:=Unit) ss.length [1,2,5,6] [48,736] (fun k _=>[(8,.int .i64 k),(7,.bool (qg (ss.take k) x.state))]) (fun _ _=>[]) (fun _ _=>True) () trivial ?_ ?_ ?_
  ·simp only [go_sem,seval]<;>simp [qg]
  ·intro k _ hk hdk hwk _;have hst:=xA ss x.state hk;have hlk:(k:Int) < (ss.length:Int):=by omega
   cases hb:qg (ss.take k) x.state
   ·rw [hb,Bool.false_or] at hst;simp only [go_sem,seval,aI,az,hdk,ints_at ss hk,hm,hwk];(with_reducible and_intros)<;>first|exact .dq|omega|skip
    refine ah.step () hk trivial ?_;simp only [go_sem,seval,hst]
   ·rw [hb,Bool.true_or] at hst;simp only [go_sem,seval,aI,az,hdk,ints_at ss hk,hm,hwk];(with_reducible and_intros)<;>first|exact .dq|omega|skip
    refine ah.step () hk trivial ?_;simp only [go_sem,seval,hst]
  ·intro _ hdk _;cases b1:qg ss x.state
   ·rw [b1] at hst;simp only [go_sem,seval,az,aI,hdk,List.take_length,b1,hwi];(with_reducible and_intros)<;>first|exact .dq|omega|skip
    refine ah.step () hi trivial ?_;simp only [go_sem,seval,hst]<;>simp
   ·rw [b1] at hst;simp only [go_sem,seval,az,aI,hdk,List.take_length,b1,hm,hwi];(with_reducible and_intros)<;>first|exact .dq|omega|skip
    refine ah.step () hi trivial ?_;simp only [go_sem,seval,hst]<;>simp
 ·intro _ hdx _;simp only [go_sem,seval,az,aI,hdx,List.take_length,mN]
theorem uF (r:aq) (ss:List Int) (h:r.gZ) (hs:ss.length < 2 ^ 30):Abs.Spec Tryz.prog 180 [] [.agg r.cells,.sl 1 (ints ss)] [] (.sl 1 (ints (mN r ss))):=by
 refine Spec.frozen (Gr r ss h hs) [0] rfl ?_;intro r;rcases r with _ | r<;>rfl
def dP (w n:Int) (p:aA):Bool:=p.who==w&&p.inst==n
def posOf (w n:Int):List aA->aA
 | []=>⟨w,n,0,0⟩
 | p :: r=>if dP w n p then p else posOf w n r
theorem mZ (b:aG) (w n:Int) (hb:b.small):Abs.Spec Tryz.prog 93 [] [.agg b.cells,.agg [.int .i64 w,.int .i64 n]] [] (.agg (posOf w n b.qs).cells):=by
 obtain ⟨h1,h2⟩:=hb;simp only [aG.cells];refine aU 42 2 [.cell 4 117] mixed Tryz.func93 ?_;simp only [go_sem,seval,aI];refine aB.walk (S:=Unit) b.qs.length [2,3,4] [48,64,80] (fun i _=>[(5,.int .i64 i)]) (fun _ _=>[]) (fun i _=>posOf w n (b.qs.drop i)=posOf w n b.qs) () rfl ?_ ?_ ?_
 ·simp only [go_sem,seval]<;>simp
 ·intro i _ hi hdi hwi hI;have hm:=aD (c:=aA.cells) b.qs hi;have hli:(i:Int) < (b.qs.length:Int):=by omega
  obtain ⟨x,hx⟩:=aO (b.qs[i]);rw [dJ hi,<- hx] at hI;rw [<- hx] at hm;simp only [posOf,dP] at hI;simp only [aA.cells] at hm;cases q1:x.who==w
  ·simp only [q1,Bool.false_and,ir,if_false] at hI;simp only [go_sem,seval,aI,hdi,hm,q1,hwi];(with_reducible and_intros)<;>first|exact .dq|omega|skip
   refine ah.step () hi hI ?_;simp only [go_sem,seval]
  cases q2:x.inst==n
  ·simp only [q1,q2,Bool.and_false,ir,if_false] at hI;simp only [go_sem,seval,aI,hdi,hm,q1,q2,hwi];(with_reducible and_intros)<;>first|exact .dq|omega|skip
   refine ah.step () hi hI ?_;simp only [go_sem,seval]
  simp only [q1,q2,Bool.and_self,if_true] at hI;rw [<- hI];simp only [go_sem,seval,aI,hdi,hm,q1,q2];(with_reducible and_intros)<;>first|exact .dq|omega|skip
 ·intro _ hdx hI;rw [List.drop_length] at hI;rw [<- hI];simp only [go_sem,seval,aI,hdx,posOf]
def PC (n:Int) (t:aL):Bool:=t.no==n&&!t.off
def gq (n:Int):List aL->Int
 | []=>-1
 | t :: r=>if PC n t then 0 else if gq n r < 0 then -1 else gq n r+1
theorem E1 {n:Int}:∀ {xs:List aL} {i:Nat} (h:i < xs.length),(∀ j (hj:j < xs.length),j < i->PC n xs[j]=false)->PC n xs[i]=true->gq n xs=i
 | [],i,h,_,_=>by simp at h
 | x :: r,0,h,_,he=>by
  have he:PC n x=true:=he;simp [gq,he]
 | x :: r,i+1,h,hn,he=>by
  have h0:PC n x=false:=hn 0 (by simp) (by omega);have h2:=E1 (xs:=r) (i:=i) (by simpa using h) (fun j hj hji=>hn (j+1) (by simpa using hj) (by omega)) he;simp only [gq,h0,h2];rw [if_neg (by simp),if_neg (by omega)];omega
theorem Dc {n:Int}:∀ {xs:List aL},(∀ j (hj:j < xs.length),PC n xs[j]=false)->gq n xs = -1
 | [],_=>rfl
 | x :: r,hn=>by
  have h0:PC n x=false:=hn 0 (by simp);have h2:=Dc (xs:=r) (fun j hj=>hn (j+1) (by simpa using hj));simp [gq,h0,h2]
theorem qK (b:aG) (n:Int) (hb:b.small):Abs.Spec Tryz.prog 172 [] [.agg b.cells,.int .i64 n] [] (.int .i64 (gq n b.ts)):=by
 obtain ⟨h1,h2⟩:=hb;simp only [aG.cells];refine aU 31 2 [.tmp 4] mixed Tryz.func172 ?_;simp only [go_sem,seval,aI];refine aB.walk (S:=Unit) b.ts.length [1,2] [48] (fun i _=>[(5,.int .i64 i)]) (fun _ _=>[]) (fun i _=>∀ j (hj:j < b.ts.length),j < i->PC n b.ts[j]=false) () (by intros;omega) ?_ ?_ ?_
 ·simp only [go_sem,seval]<;>simp
 ·intro i _ hi hdi hwi hI;have hm:=aD (c:=aL.cells) b.ts hi;have hli:(i:Int) < (b.ts.length:Int):=by omega
  have hhit:=E1 hi hI
  have hnext:PC n b.ts[i]=false->∀ j (hj:j < b.ts.length),j < i+1->PC n b.ts[j]=false:=fun h0 j hj hji=>by
   rcases Nat.lt_or_ge j i with h | h
   ·exact hI j hj h
   ·obtain rfl:j=i:=by omega
    exact h0
  obtain ⟨x,hx⟩:=aO (b.ts[i]);rw [<- hx] at hm hhit hnext;simp only [PC] at hhit hnext;simp only [aL.cells] at hm;cases q1:x.no==n
  ·simp only [go_sem,seval,aI,hdi,hm,q1,hwi];(with_reducible and_intros)<;>first|exact .dq|omega|skip
   refine ah.step () hi (hnext (by simp [q1])) ?_;simp only [go_sem,seval]
  cases q2:x.off
  case true =>
   simp only [go_sem,seval,aI,hdi,hm,q1,q2,hwi];(with_reducible and_intros)<;>first|exact .dq|omega|skip
   refine ah.step () hi (hnext (by simp [q2])) ?_;simp only [go_sem,seval]
  simp only [go_sem,seval,aI,hdi,hm,q1,q2,hhit (by simp [q1,q2])];(with_reducible and_intros)<;>first|exact .dq|omega|skip
 ·intro _ hdx hI;simp only [go_sem,seval,aI,hdx,Dc (fun j hj=>hI j hj hj)]
theorem uP (x:ay):Abs.Spec Tryz.prog 239 [] [.agg x.cells] [] (.bD [.int .i64 (if x.set==0 then x.aR else x.set),.bool (!(x.set==0&&x.aR==0))]):=by
 simp only [ay.cells];refine aU 14 1 [.tmp 2,.tmp 3] mixed Tryz.func239 ?_;cases q1:x.set==0<;>cases q2:x.aR==0<;>simp only [go_sem,seval,bne,q1,q2,Bool.false_and,Bool.and_self,Bool.and_false,Bool.not_true,Bool.not_false]
 all_goals (with_reducible and_intros)<;>first|exact .dq|omega|skip
theorem zk (a b:Int) (ha:fy a) (hb:fy b):Abs.Spec Tryz.prog 241 [] [.int .i64 a,.int .i64 b] [] (.bD [.int .i64 (if bS (a*b) then a*b else 0),.bool (bS (a*b))]):=by
 have h1:=lq a b ha hb;have h2:=jR (a*b);simp only [wd] at h1 h2;refine aU 12 2 [.tmp 4,.tmp 5] mixed Tryz.func241 ?_;simp only [go_sem,seval];(with_reducible and_intros)<;>first|exact .dq|omega|skip
 refine aa.pure h1 ?_;simp only [go_sem,seval];(with_reducible and_intros)<;>first|exact .dq|omega|skip
 refine aa.pure h2 ?_;simp only [go_sem,seval]
def sizedB (t:aL):Bool:=within t.aX 1 1048576&&within t.aR 1 1073741824
def vN (r:aq) (t:aL):Int:=if r.okB then (if sizedB t then (if bf r t.inst&&(eo r t.fZ&&eo r t.dY) then (if t.fZ==t.dY then 16 else if bq r t.fZ==1&&bq r t.dY==1 then 0 else 14) else 10) else 3) else 14
theorem DX (r:aq) (t:aL) (h:r.gZ):Abs.Spec Tryz.prog 169 [] [.agg r.cells,.agg t.cells] [] (.int .i64 (vN r t)):=by
 have c1:=dK r h.small;have c2:Abs.Spec Tryz.prog 230 [] [.agg t.cells] [] (.bool (sizedB t)):=pE t;have c3:=dc r t.inst h.small;have c4:=bV r t.fZ h.small;have c5:=bV r t.dY h.small;obtain ⟨gi,hgi⟩:∃ g,g=aV r t.inst:=⟨_,rfl⟩
 obtain ⟨gb,hgb⟩:∃ g,g=eV r t.fZ:=⟨_,rfl⟩
 obtain ⟨gs,hgs⟩:∃ g,g=eV r t.dY:=⟨_,rfl⟩
 have e:vN r t=if r.okB then (if sizedB t then (if bf r t.inst&&(eo r t.fZ&&eo r t.dY) then (if t.fZ==t.dY then 16 else if gb.state==1&&gs.state==1 then 0 else 14) else 10) else 3) else 14:=by rw [hgb,hgs];rfl
 rw [e];rw [<- hgi] at c3;rw [<- hgb] at c4;rw [<- hgs] at c5;clear e hgi hgb hgs;simp only [aq.cells,ay.cells,ak.cells,aL.cells] at *;refine aU 61 2 [.tmp 4] mixed Tryz.func169 ?_;simp only [go_sem,seval];(with_reducible and_intros)<;>first|exact .dq|omega|skip
 refine aa.pure c1 ?_;cases b1:r.okB
 ·simp only [go_sem,seval]
 simp only [go_sem,seval];(with_reducible and_intros)<;>first|exact .dq|omega|skip
 refine aa.pure c2 ?_;cases b2:sizedB t
 ·simp only [go_sem,seval]
 simp only [go_sem,seval];(with_reducible and_intros)<;>first|exact .dq|omega|skip
 refine aa.pure c3 ?_;simp only [go_sem,seval];(with_reducible and_intros)<;>first|exact .dq|omega|skip
 refine aa.pure c4 ?_;simp only [go_sem,seval];(with_reducible and_intros)<;>first|exact .dq|omega|skip
 refine aa.pure c5 ?_;clear c1 c2 c3 c4 c5;cases q1:bf r t.inst<;>simp only [go_sem,seval,q1,Bool.false_and,Bool.true_and]<;>(with_reducible and_intros)<;>first|exact .dq|omega|skip
 cases q2:eo r t.fZ<;>simp only [go_sem,seval,q1,q2,Bool.false_and,Bool.true_and]<;>(with_reducible and_intros)<;>first|exact .dq|omega|skip
 cases q3:eo r t.dY<;>simp only [go_sem,seval,q1,q2,q3]<;>(with_reducible and_intros)<;>first|exact .dq|omega|skip
 cases q4:t.fZ==t.dY<;>simp only [go_sem,seval,q4]<;>(with_reducible and_intros)<;>first|exact .dq|omega|skip
 cases q5:gb.state==1<;>simp only [go_sem,seval,bne,q5,Bool.false_and,Bool.true_and]<;>(with_reducible and_intros)<;>first|exact .dq|omega|skip
 cases q6:gs.state==1<;>simp only [go_sem,seval,bne,q6]<;>(with_reducible and_intros)<;>first|exact .dq|omega|skip
def N1 (t:aL) (back:Bool):Int:=if back then -t.aX else t.aX
def fX (t:aL) (back:Bool):List aA:=if sizedB t then [⟨t.fZ,t.inst,N1 t back,N1 t back*t.aR⟩,⟨t.dY,t.inst,-N1 t back,-N1 t back*t.aR⟩] else []
theorem EB (t:aL) (back:Bool):Abs.Spec Tryz.prog 234 [] [.agg t.cells,.bool back] [.own 4 ((fX t back).map aA.cells)] (.ref 0):=by
 have c2:Abs.Spec Tryz.prog 230 [] [.agg t.cells] [] (.bool (sizedB t)):=pE t;simp only [aL.cells] at *;refine aU 39 2 [.tmp 4] mixed Tryz.func234 ?_;simp only [go_sem,seval];(with_reducible and_intros)<;>first|exact .dq|omega|skip
 refine aa.pure c2 ?_;cases b2:sizedB t
 ·simp only [go_sem,seval,fX,b2]<;>simp
 have hz:=b2;simp only [sizedB,within,cg,decide_eq_true_eq] at hz;obtain ⟨⟨a1,a2⟩,a3,a4⟩:=hz;cases back
 ·have m1:=fI (a:=t.aX) (b:=t.aR) (A:=1048576) (B:=1073741824) (by omega) (by omega);have m2:=fI (a:=-t.aX) (b:=t.aR) (A:=1048576) (B:=1073741824) (by omega) (by omega);have w1:IntKind.wrap .i64 (0-t.aX) = -t.aX:=by rw [bz (by omega) (by omega)];omega
  have w2:IntKind.wrap .i64 (t.aX*t.aR)=t.aX*t.aR:=bz (by omega) (by omega);have w3:IntKind.wrap .i64 (-t.aX*t.aR) = -t.aX*t.aR:=bz (by omega) (by omega);simp only [go_sem,seval,w1,w2,w3,fX,b2,N1]<;>simp
 ·have m1:=fI (a:=-t.aX) (b:=t.aR) (A:=1048576) (B:=1073741824) (by omega) (by omega);have m2:=fI (a:=t.aX) (b:=t.aR) (A:=1048576) (B:=1073741824) (by omega) (by omega);have w1:IntKind.wrap .i64 (0-t.aX) = -t.aX:=by rw [bz (by omega) (by omega)];omega
  have w0:IntKind.wrap .i64 (0 - -t.aX) = - -t.aX:=by rw [bz (by omega) (by omega)];omega
  have w2:IntKind.wrap .i64 (-t.aX*t.aR) = -t.aX*t.aR:=bz (by omega) (by omega);have hn:- -t.aX=t.aX:=by omega
  have w3:IntKind.wrap .i64 (- -t.aX*t.aR) = - -t.aX*t.aR:=by rw [hn];exact bz (by omega) (by omega)
  simp only [go_sem,seval,w1,w0,w2,w3,fX,b2,N1]<;>simp
theorem sv (t:aL) (back:Bool):Abs.Spec Tryz.prog 234 [] [.agg t.cells,.bool back] [] (.sl 4 ((fX t back).map aA.cells)):=by
 refine Spec.frozen (EB t back) [0] rfl ?_;intro r;rcases r with _ | r<;>rfl
theorem Cz (a b c:Int) (ha:fy a) (hb:fy (b*c)):Abs.Spec Tryz.prog 273 [] [.int .i64 a,.int .i64 b,.int .i64 c] [] (.agg (wd (a*(b*c)))):=by
 have h1:=lq a (b*c) ha hb;have w:IntKind.wrap .i64 (b*c)=b*c:=bz hb.1 (by have:=hb.2;omega);simp only [wd] at h1 |-;refine aU 12 3 [.cell 6 214] mixed Tryz.func273 ?_;simp only [go_sem,seval,w];(with_reducible and_intros)<;>first|exact .dq|omega|skip
 refine aa.pure h1 ?_;simp only [go_sem,seval]
def gP (p:aA) (m pr:Int):Int:=p.aX*(pr*m) + -p.cost*m
theorem uD (p:aA) (m pr:Int) (hq:fy p.aX) (hc:bS p.cost=true) (hm:0<=m/\m<=1024) (hp:0<=pr/\pr<=1073741824):Abs.Spec Tryz.prog 240 [] [.agg p.cells,.int .i64 m,.int .i64 pr] [] (.bD [.int .i64 (if bS (gP p m pr) then gP p m pr else 0),.bool (bS (gP p m pr))]):=by
 have k1:=fI (a:=pr) (b:=m) (A:=1073741824) (B:=1024) (by omega) (by omega);have hcr:=cR.1 hc;have k0:0<=pr*m:=Int.mul_nonneg hp.1 hm.1;have k2:=fI (a:=p.aX) (b:=pr*m) (A:=9223372036854775808) (B:=1099511627776) (by have:=hq.1;have:=hq.2;omega) (by omega);have k3:=fI (a:=-p.cost) (b:=m) (A:=4611686018427387904) (B:=1024) (by omega) (by omega);have h1:=Cz p.aX pr m hq ⟨by omega,by omega⟩;have h2:=lq (-p.cost) m ⟨by omega,by omega⟩ ⟨by omega,by omega⟩;have i1:xJ (p.aX*(pr*m))=true:=by simp only [xJ,cg,decide_eq_true_eq];omega
 have i2:xJ (-p.cost*m)=true:=by simp only [xJ,cg,decide_eq_true_eq];omega
 have h3:=jO [p.aX*(pr*m),-p.cost*m] (by simp) (by intro n hn;simp only [List.mem_cons,List.not_mem_nil,or_false] at hn;rcases hn with rfl | rfl<;>assumption);have es:aC [p.aX*(pr*m),-p.cost*m]=gP p m pr:=by simp [aC,gP]
 have i3:xJ (gP p m pr)=true:=by
  have hw:gP p m pr=p.aX*(pr*m) + -p.cost*m:=rfl;rw [hw];clear hw es h3 h2 h1;simp only [xJ,cg,decide_eq_true_eq];constructor<;>omega
 rw [es,i3,if_pos rfl] at h3;have h4:=jR (gP p m pr);have w:IntKind.wrap .i64 (0-p.cost) = -p.cost:=by rw [bz (by omega) (by omega)];omega
 simp only [qz,wd,List.map_cons,List.map_nil] at h1 h2 h3 h4;simp only [aA.cells];obtain ⟨A,hA⟩:=aO (p.aX*(pr*m));obtain ⟨B,hB⟩:=aO (-p.cost*m);obtain ⟨C,hC⟩:=aO (gP p m pr);rw [<- hA] at h1 h3;rw [<- hB] at h2 h3;rw [<- hC] at h3 h4 |-;clear hA hB hC k1 k0 k2 k3 i1 i2 es i3;refine aU 31 3 [.tmp 6,.tmp 7] mixed Tryz.func240 ?_;simp only [go_sem,seval];(with_reducible and_intros)<;>first|exact .dq|omega|skip
 refine aa.pure h1 ?_;simp only [go_sem,seval,w];(with_reducible and_intros)<;>first|exact .dq|omega|skip
 refine aa.pure h2 ?_;simp only [go_sem,seval];(with_reducible and_intros)<;>first|exact .dq|omega|skip
 refine aa.gen [] [] true (by simp) ?_;simp only [go_sem,seval];refine bg.intro h3 ?_;simp only [go_sem,seval];(with_reducible and_intros)<;>first|exact .dq|omega|skip
 refine aa.pure h4 ?_;simp only [go_sem,seval]
theorem Ia (b:aG) (h:b.small):Abs.Spec Tryz.prog 95 [] [.agg b.cells] [.own 7 (b.ts.map aL.cells)] (.agg [.int .i64 b.next,.ref 0,.sl 4 (b.qs.map aA.cells)]):=by
 refine Spec.frozen (pF b h) [1] rfl ?_;intro r;rcases r with _ | _ | r<;>rfl
def pW (p:aA):Bool:=ot p.who p.inst&&(bS p.aX&&bS p.cost)
def ES (g:List aA):Bool:=(List.range 8).all fun i=>aC (pick (fun p:aA=>p.inst==(i:Int)+1) aA.aX g)==0
def FE (b:aG) (g:List aA) (w n:Int):Int:=aC ((posOf w n b.qs).aX :: pick (dP w n) aA.aX g)
def RM (b:aG) (g:List aA) (w n:Int):Int:=aC ((posOf w n b.qs).cost :: pick (dP w n) aA.cost g)
def Co (b:aG) (g:List aA) (w n:Int):Bool:=bS (FE b g w n)&&(bS (RM b g w n)&&within (FE b g w n) (-1099511627776) 1099511627776)
def EJ (b:aG) (g:List aA) (w n:Int):List aA:=if FE b g w n==0&&RM b g w n==0 then [] else [⟨w,n,FE b g w n,RM b g w n⟩]
def K1 (b:aG) (g:List aA) (w:Int) (i:Nat):List aA:=(List.range i).flatMap fun (k:Nat)=>EJ b g w ((k:Int)+1)
def vS (b:aG) (g:List aA) (i:Nat):List aA:=(List.range i).flatMap fun (k:Nat)=>K1 b g ((k:Int)+1) 8
def JR (b:aG) (g:List aA) (w:Int):Bool:=(List.range 8).all fun (k:Nat)=>Co b g w ((k:Int)+1)
def zu (b:aG) (g:List aA):Bool:=(List.range 16).all fun (k:Nat)=>JR b g ((k:Int)+1)
def jq (b:aG) (g:List aA):Int:=if b.okB then (if g.all pW then (if ES g then (if zu b g then 0 else 1) else 12) else 3) else 14
def rX (b:aG) (g:List aA):aG:=if jq b g=0 then ⟨b.next,b.ts,vS b g 16⟩ else ⟨0,[],[]⟩
theorem Tb (b:aG) (g:List aA) (w n:Int):(EJ b g w n).length<=1:=by unfold EJ;split<;>simp
theorem M8 (b:aG) (g:List aA) (w:Int) (i:Nat):(K1 b g w i).length<=i:=by
 have:=xM (f:=fun (k:Nat)=>EJ b g w ((k:Int)+1)) (m:=1) (fun k=>Tb _ _ _ _) i;simpa [K1] using this
theorem Au (b:aG) (g:List aA) (i:Nat):(vS b g i).length<=8*i:=xM (f:=fun (k:Nat)=>K1 b g ((k:Int)+1) 8) (fun k=>M8 _ _ _ _) i
theorem F8 {w n:Int}:∀ {qs:List aA},(∀ p∈qs,p.dz)->fy (posOf w n qs).aX/\fy (posOf w n qs).cost
 | [],_=>by simp [posOf,fy]
 | p :: r,h=>by
  simp only [posOf];split
  ·have:=h p (by simp);exact ⟨this.2.2.1,this.2.2.2⟩
  ·exact F8 fun q hq=>h q (by simp [hq])
theorem qQ (b:aG) (g:List aA) (hb:b.small) (hr:∀ p∈b.qs,p.dz) (hg:g.length < 2 ^ 29):Abs.Spec Tryz.prog 233 [] [.agg b.cells,.sl 4 (g.map aA.cells)] [.own 7 ((rX b g).ts.map aL.cells),.own 4 ((rX b g).qs.map aA.cells)] (.bD [.agg [.int .i64 (rX b g).next,.ref 0,.ref 1],.int .i64 (jq b g)]):=by
 have c1:=gX b hb hr;have c2:=Ia b hb;have c3:=fun w n=>mZ b w n hb
 have hpr:=fun w n=>F8 (w:=w) (n:=n) hr
 simp only [aG.cells] at c1 c2 c3 |-;refine aU 199 2 [.cell 4 33,.tmp 5] mixed Tryz.func233 ?_;simp only [go_sem,seval];(with_reducible and_intros)<;>first|exact .dq|omega|skip
 refine aa.pure c1 ?_;cases b1:b.okB
 ·have e:jq b g=14:=by simp [jq,b1]
  simp only [go_sem,seval,rX,e]<;>simp
 have e:jq b g=if g.all pW then (if ES g then (if zu b g then 0 else 1) else 12) else 3:=by simp [jq,b1]
 simp only [rX];rw [e];clear e c1;simp only [go_sem,seval];refine aB.walk (S:=Unit) g.length [1,2,4] [48,80] (fun i _=>[(6,.int .i64 i)]) (fun _ _=>[]) (fun i _=>(g.drop i).all pW=g.all pW) () rfl ?_ ?_ ?_
 ·simp only [go_sem,seval]<;>simp
 ·intro i _ hi hdi hwi hI;have hm:=aD (c:=aA.cells) g hi;have hli:(i:Int) < (g.length:Int):=by omega
  obtain ⟨x,hx⟩:=aO (g[i]);have k1:=oF x.who x.inst;have k2:=cY x.aX;have k3:=cY x.cost;rw [dJ hi,<- hx] at hI;rw [<- hx] at hm;simp only [List.all_cons,pW] at hI;simp only [aA.cells] at hm;clear c2 c3;simp only [go_sem,seval,aI,hdi,hm];(with_reducible and_intros)<;>first|exact .dq|omega|skip
  refine aa.pure k1 ?_;cases q1:ot x.who x.inst
  ·rw [q1,Bool.false_and,Bool.false_and] at hI;have hI':g.all pW=false:=hI.symm;simp only [go_sem,seval,q1,hI']
   all_goals simp
  simp only [go_sem,seval,q1,aI,hm];(with_reducible and_intros)<;>first|exact .dq|omega|skip
  refine aa.pure k2 ?_;cases q2:bS x.aX
  ·rw [q1,q2,Bool.false_and,Bool.and_false,Bool.false_and] at hI;have hI':g.all pW=false:=hI.symm;simp only [go_sem,seval,q2,hI']
   all_goals simp
  simp only [go_sem,seval,q2,aI,hm];(with_reducible and_intros)<;>first|exact .dq|omega|skip
  refine aa.pure k3 ?_;cases q3:bS x.cost
  ·rw [q1,q2,q3,Bool.and_false,Bool.and_false,Bool.false_and] at hI;have hI':g.all pW=false:=hI.symm;simp only [go_sem,seval,q3,hI']
   all_goals simp
  rw [q1,q2,q3,Bool.and_self,Bool.and_self,Bool.true_and] at hI;simp only [go_sem,seval,q3,hwi];(with_reducible and_intros)<;>first|exact .dq|omega|skip
  refine ah.step () hi hI ?_;simp only [go_sem,seval]
 intro _ hdx hI;rw [List.drop_length] at hI;have hall:g.all pW=true:=hI.symm
 have hgm:∀ p∈g,bS p.aX=true/\bS p.cost=true:=fun p hp=>by
  have:=List.all_eq_true.1 hall p hp;simp only [pW,cg] at this;exact this.2
 rw [hall];simp only [go_sem,seval,aI,hdx];clear hI hdx;refine aB.walk (S:=Unit) 8 [1,2,4] [48,80] (fun i _=>[(7,.int .i64 ((i:Int)+1))]) (fun _ _=>[]) (fun i _=>∀ k < i,(aC (pick (fun p:aA=>p.inst==((k:Nat):Int)+1) aA.aX g)==0)=true) () (by simp) ?_ ?_ ?_
 ·simp only [go_sem,seval]<;>simp
 ·intro c _ hc _ _ hI;obtain ⟨n,hn⟩:=aO ((c:Int)+1);have hd:decide (n<=8)=true:=decide_eq_true (by omega);have hw:IntKind.wrap .i64 (n+1)=((c+1:Nat):Int)+1:=by rw [bz (by omega) (by omega)];omega
  have hA:=cu (pick (fun p:aA=>p.inst==n) aA.aX g) (kj fun p hp=>n8 (hgm p hp).1) (by have:=bY (fun p:aA=>p.inst==n) aA.aX g;omega);have h0:=aa7 (pick (fun p:aA=>p.inst==n) aA.aX g)
  have hbad:(aC (pick (fun p:aA=>p.inst==n) aA.aX g)==0)=false->ES g=false:=fun h=>by
   rw [ES,List.all_eq_false];exact ⟨c,List.mem_range.2 hc,by rw [<- hn,h];simp⟩
  rw [<- hn];clear c2 c3;simp only [go_sem,seval,hd,aI];refine aB.walk (S:=Unit) g.length [1,2,4,7] [48,80] (fun i _=>[(9,.int .i64 i),(8,.ref 1360)]) (fun i _=>[(1360,.own 1 (ints (pick (fun p:aA=>p.inst==n) aA.aX (g.take i))))]) (fun _ _=>True) () trivial ?_ ?_ ?_
  ·simp only [go_sem,seval]<;>simp [pick,ints]
  ·intro i _ hi hdi hwi _;have hm:=aD (c:=aA.cells) g hi;have hs:=fJ (fun p:aA=>p.inst==n) aA.aX hi;have hlen:=bY (fun p:aA=>p.inst==n) aA.aX (g.take i);have hlt:(g.take i).length=i:=by simp;omega
   have hli:(i:Int) < (g.length:Int):=by omega
   obtain ⟨L,hL⟩:=aO (pick (fun p:aA=>p.inst==n) aA.aX (g.take i));obtain ⟨x,hx⟩:=aO (g[i]);rw [<- hx,<- hL] at hs;rw [<- hx] at hm;rw [<- hL] at hlen |-;simp only [aA.cells] at hm;simp only [go_sem,seval,aI,hdi,hm];(with_reducible and_intros)<;>first|exact .dq|omega|skip
   cases hb:x.inst==n
   ·rw [hb] at hs;simp only [go_sem,seval,hwi];refine ah.step () hi trivial ?_;simp only [go_sem,seval,hs]<;>simp
   ·rw [hb] at hs;simp only [go_sem,seval,hwi,az,aI,hm];(with_reducible and_intros)<;>first|exact .dq|omega|skip
    refine ah.step () hi trivial ?_;simp only [go_sem,seval,hs]<;>simp
  ·intro _ hdx _;simp only [go_sem,seval,hdx,aI,List.take_length];refine aa.gen [] [] true (by simp) ?_;simp only [go_sem,seval];refine bg.intro hA ?_;obtain ⟨L,hL⟩:=aO (pick (fun p:aA=>p.inst==n) aA.aX g);rw [<- hL] at h0 hbad |-;cases b1:bS (aC L)
   ·have hbad:=hbad (by rw [<- h0,b1];rfl);simp only [go_sem,seval,b1,hbad]
    all_goals simp
   cases b2:addN L==0
   ·have hbad:=hbad (by rw [<- h0,b1,b2];rfl);simp only [go_sem,seval,b1,bne,b2,hbad]
    all_goals simp
   rw [b1,b2] at h0;simp only [go_sem,seval,b1,bne,b2,hw];(with_reducible and_intros)<;>first|exact .dq|omega|skip
   refine ah.step () hc ?_ ?_
   ·intro k hk;rcases Nat.lt_or_ge k c with h | h
    ·exact hI k h
    ·obtain rfl:k=c:=by omega
     rw [<- hn,<- hL];exact h0.symm
   ·simp only [go_sem,seval]
 intro _ _ hI;have hfl:ES g=true:=List.all_eq_true.2 fun c hc=>hI c (List.mem_range.1 hc)
 rw [hfl];clear hI hfl hall;simp only [go_sem,seval];(with_reducible and_intros)<;>first|exact .dq|omega|skip
 refine aa.gen [] [] false (by simp) ?_;simp only [go_sem,seval];refine bg.intro c2 ?_;clear c2;simp only [go_sem,seval];(with_reducible and_intros)<;>first|exact .dq|omega|skip
 refine aB.walk (S:=Unit) 16 [1,2,4,12] [48,80,1584] (fun i _=>[(13,.int .i64 ((i:Int)+1))]) (fun i _=>[(208,.box [.int .i64 b.next,.ref 1584,.ref 3152]),(3152,.own 4 ((vS b g i).map aA.cells))]) (fun i _=>∀ k < i,JR b g (((k:Nat):Int)+1)=true) () (by simp) ?_ ?_ ?_
 ·simp only [go_sem,seval]<;>simp [vS]
 ·intro i _ hi _ _ hI;obtain ⟨w,hw⟩:=aO ((i:Int)+1);have hd:decide (w<=16)=true:=decide_eq_true (by omega);have hww:IntKind.wrap .i64 (w+1)=((i+1:Nat):Int)+1:=by rw [bz (by omega) (by omega)];omega
  have hnx:vS b g (i+1)=vS b g i++K1 b g w 8:=by rw [hw];exact tK _ i
  have hwl:=Au b g i
  have hbad:JR b g w=false->zu b g=false:=fun h=>by
   rw [zu,List.all_eq_false];exact ⟨i,List.mem_range.2 hi,by rw [<- hw,h];simp⟩
  obtain ⟨W,hW⟩:=aO (vS b g i);rw [<- hW] at hnx hwl |-;rw [<- hw];simp only [go_sem,seval,hd];refine aB.walk (S:=Unit) 8 [1,2,4,12,13] [48,80,1584] (fun j _=>[(14,.int .i64 ((j:Int)+1))]) (fun j _=>[(208,.box [.int .i64 b.next,.ref 1584,.ref 3152]),(3152,.own 4 ((W++K1 b g w j).map aA.cells))]) (fun j _=>∀ k < j,Co b g w (((k:Nat):Int)+1)=true) () (by simp) ?_ ?_ ?_
  ·simp only [go_sem,seval]<;>simp [K1]
  ·intro j _ hj _ _ hJ;obtain ⟨n,hn⟩:=aO ((j:Int)+1);have hd:decide (n<=8)=true:=decide_eq_true (by omega);have hwn:IntKind.wrap .i64 (n+1)=((j+1:Nat):Int)+1:=by rw [bz (by omega) (by omega)];omega
   have hnn:K1 b g w (j+1)=K1 b g w j++EJ b g w n:=by rw [hn];exact tK _ j
   have hnl:=M8 b g w j
   have hbad2:Co b g w n=false->zu b g=false:=fun h=>hbad (by
    rw [JR,List.all_eq_false]
    exact ⟨j,List.mem_range.2 hj,by rw [<- hn,h];simp⟩)
   have hP:=c3 w n;have hpr:=hpr w n;obtain ⟨p,hp⟩:=aO (posOf w n b.qs);rw [<- hp] at hP hpr;obtain ⟨V,hV⟩:=aO (W++K1 b g w j);have hVl:V.length<=200:=by rw [hV,List.length_append];omega
   have hnV:W++K1 b g w (j+1)=V++EJ b g w n:=by rw [hnn,hV,List.append_assoc]
   have hA:=cu (p.aX :: pick (dP w n) aA.aX g) (fun x hx=>by
    rcases List.mem_cons.1 hx with rfl | hx
    ·exact hpr.1
    ·exact kj (fun q hq=>n8 (hgm q hq).1) x hx) (by have:=bY (dP w n) aA.aX g;simp only [List.length_cons];omega)
   have hB:=cu (p.cost :: pick (dP w n) aA.cost g) (fun x hx=>by
    rcases List.mem_cons.1 hx with rfl | hx
    ·exact hpr.2
    ·exact kj (fun q hq=>n8 (hgm q hq).2) x hx) (by have:=bY (dP w n) aA.cost g;simp only [List.length_cons];omega)
   have eq:aC (p.aX :: pick (dP w n) aA.aX g)=FE b g w n:=by rw [hp];rfl
   have ec:aC (p.cost :: pick (dP w n) aA.cost g)=RM b g w n:=by rw [hp];rfl
   rw [<- hV,<- hn];simp only [aA.cells] at hP;clear c3 hV hp hW hnn hnx;simp only [go_sem,seval,hd];(with_reducible and_intros)<;>first|exact .dq|omega|skip
   refine aa.pure hP ?_;simp only [go_sem,seval,aI];(with_reducible and_intros)<;>first|exact .dq|omega|skip
   refine aB.walk (S:=Unit) g.length [1,2,4,12,13,14] [48,80,208,1584,3152] (fun i _=>[(18,.int .i64 i),(16,.ref 2416),(17,.ref 2544)]) (fun i _=>[(2416,.own 1 (ints (p.aX :: pick (dP w n) aA.aX (g.take i)))),(2544,.own 1 (ints (p.cost :: pick (dP w n) aA.cost (g.take i))))]) (fun _ _=>True) () trivial ?_ ?_ ?_
   ·simp only [go_sem,seval]<;>simp [pick,ints]
   ·intro i _ hi hdi hwi _;have hm:=aD (c:=aA.cells) g hi;have hs1:=fJ (dP w n) aA.aX hi;have hs2:=fJ (dP w n) aA.cost hi;have hl1:=bY (dP w n) aA.aX (g.take i);have hl2:=bY (dP w n) aA.cost (g.take i);have hlt:(g.take i).length=i:=by simp;omega
    have hli:(i:Int) < (g.length:Int):=by omega
    have hs1:ints (p.aX :: pick (dP w n) aA.aX (g.take (i+1)))=ints (p.aX :: pick (dP w n) aA.aX (g.take i))++(if dP w n g[i] then [[.int .i64 g[i].aX]] else []):=congrArg (fun z:List (List D)=>([D.int .i64 p.aX]:List D) :: z) hs1;have hs2:ints (p.cost :: pick (dP w n) aA.cost (g.take (i+1)))=ints (p.cost :: pick (dP w n) aA.cost (g.take i))++(if dP w n g[i] then [[.int .i64 g[i].cost]] else []):=congrArg (fun z:List (List D)=>([D.int .i64 p.cost]:List D) :: z) hs2;have hl1:(p.aX :: pick (dP w n) aA.aX (g.take i)).length<=i+1:=by simp only [List.length_cons];omega
    have hl2:(p.cost :: pick (dP w n) aA.cost (g.take i)).length<=i+1:=by simp only [List.length_cons];omega
    obtain ⟨L,hL⟩:=aO (p.aX :: pick (dP w n) aA.aX (g.take i));obtain ⟨M,hM⟩:=aO (p.cost :: pick (dP w n) aA.cost (g.take i));obtain ⟨x,hx⟩:=aO (g[i]);rw [<- hx,<- hL] at hs1;rw [<- hx,<- hM] at hs2;rw [<- hx] at hm;rw [<- hL] at hl1;rw [<- hM] at hl2;rw [<- hL,<- hM];simp only [dP] at hs1 hs2;simp only [aA.cells] at hm;clear hL hM;cases q1:x.who==w
    ·simp only [q1,Bool.false_and,ir,if_false,List.append_nil] at hs1 hs2;simp only [go_sem,seval,aI,hdi,hm,q1,hwi];(with_reducible and_intros)<;>first|exact .dq|omega|skip
     refine ah.step () hi trivial ?_;simp only [go_sem,seval,hs1,hs2]
    cases q2:x.inst==n
    ·simp only [q1,q2,Bool.and_false,ir,if_false,List.append_nil] at hs1 hs2;simp only [go_sem,seval,aI,hdi,hm,q1,q2,hwi];(with_reducible and_intros)<;>first|exact .dq|omega|skip
     refine ah.step () hi trivial ?_;simp only [go_sem,seval,hs1,hs2]
    simp only [q1,q2,Bool.and_self,if_true] at hs1 hs2;simp only [go_sem,seval,aI,hdi,hm,q1,q2,hwi,az];(with_reducible and_intros)<;>first|exact .dq|omega|skip
    refine ah.step () hi trivial ?_;simp only [go_sem,seval,hs1,hs2]
   ·intro _ hdx _;simp only [go_sem,seval,hdx,aI,List.take_length];(with_reducible and_intros)<;>first|exact .dq|omega|skip
    refine aa.gen [] [] true (by simp) ?_;simp only [go_sem,seval];refine bg.intro hA ?_;simp only [go_sem,seval];(with_reducible and_intros)<;>first|exact .dq|omega|skip
    refine aa.gen [] [] true (by simp) ?_;simp only [go_sem,seval];refine bg.intro hB ?_;simp only [addN,eq,ec];clear hA hB;have hW:=bk (FE b g w n) (-1099511627776) 1099511627776;simp only [Co] at hbad2;simp only [EJ] at hnV;obtain ⟨X,hX⟩:=aO (FE b g w n);obtain ⟨Y,hY⟩:=aO (RM b g w n);have hokX:(bS X&&(bS Y&&within X (-1099511627776) 1099511627776))=Co b g w n:=by rw [hX,hY];rfl
    rw [<- hX,<- hY] at hbad2 hnV;rw [<- hX] at hW;rw [<- hX,<- hY];cases b1:bS X
    ·have hbad2:=hbad2 (by rw [b1];rfl);simp only [go_sem,seval,b1,hbad2]
     all_goals simp
    cases b2:bS Y
    ·have hbad2:=hbad2 (by rw [b1,b2];rfl);simp only [go_sem,seval,b1,b2,hbad2]
     all_goals simp
    simp only [go_sem,seval,b1,b2];(with_reducible and_intros)<;>first|exact .dq|omega|skip
    refine aa.pure hW ?_;cases b3:within X (-1099511627776) 1099511627776
    ·have hbad2:=hbad2 (by rw [b1,b2,b3];rfl);simp only [go_sem,seval,b3,hbad2]
     all_goals simp
    have hJ2:∀ k < j+1,Co b g w (((k:Nat):Int)+1)=true:=fun k hk=>by
     rcases Nat.lt_or_ge k j with h | h
     ·exact hJ k h
     ·obtain rfl:k=j:=by omega
      rw [<- hn,<- hokX,b1,b2,b3];rfl
    cases q1:X==0
    ·simp only [q1,Bool.false_and,ir,if_false] at hnV;simp only [go_sem,seval,b3,bne,q1,hwn,aI];(with_reducible and_intros)<;>first|exact .dq|omega|skip
     refine ah.step () hj hJ2 ?_;simp only [go_sem,seval,hnV]<;>simp
    cases q2:Y==0
    ·simp only [q1,q2,Bool.and_false,ir,if_false] at hnV;simp only [go_sem,seval,b3,bne,q1,q2,hwn,aI];(with_reducible and_intros)<;>first|exact .dq|omega|skip
     refine ah.step () hj hJ2 ?_;simp only [go_sem,seval,hnV]<;>simp
    simp only [q1,q2,Bool.and_self,if_true,List.append_nil] at hnV;simp only [go_sem,seval,b3,bne,q1,q2,hwn];(with_reducible and_intros)<;>first|exact .dq|omega|skip
    refine ah.step () hj hJ2 ?_;simp only [go_sem,seval,hnV]
  ·intro _ _ hJ;have hok:JR b g w=true:=List.all_eq_true.2 fun k hk=>hJ k (List.mem_range.1 hk)
   simp only [go_sem,seval,hww];(with_reducible and_intros)<;>first|exact .dq|omega|skip
   refine ah.step () hi ?_ ?_
   ·intro k hk;rcases Nat.lt_or_ge k i with h | h
    ·exact hI k h
    ·obtain rfl:k=i:=by omega
     rw [<- hw];exact hok
   ·simp only [go_sem,seval,hnx]
 ·intro _ _ hI;have hok:zu b g=true:=List.all_eq_true.2 fun k hk=>hI k (List.mem_range.1 hk)
  simp only [go_sem,seval,hok]
theorem OH {b:aG} (h:b.okB=true):0<=b.next/\b.next<=1099511627776/\b.ts.length<=128:=by
 simp only [aG.okB,cg,Bool.not_eq_true',decide_eq_false_iff_not] at h;omega
theorem kN {b:aG} {g:List aA} (h:jq b g=0):b.okB=true/\rX b g=⟨b.next,b.ts,vS b g 16⟩:=by
 refine ⟨?_,by simp [rX,h]⟩;unfold jq at h;split at h
 ·assumption
 ·cases h
theorem M3 {b:aG} {g:List aA} (h:jq b g≠0):rX b g=⟨0,[],[]⟩:=by simp [rX,h]
def fM (b:aG) (t:aL):Int:=if b.okB then (if t.okB then (if 128<=b.ts.length then 9 else if b.next=1099511627776 then 1 else jq b (fX t false)) else 3) else 14
def gS (b:aG) (t:aL):aG:=if fM b t=0 then ⟨b.next+1,b.ts++[{ t with no:=b.next+1,off:=false }],vS b (fX t false) 16⟩ else ⟨0,[],[]⟩
def pN (b:aG) (t:aL):Int:=if fM b t=0 then b.next+1 else 0
theorem Fz (t:aL) (k:Bool):(fX t k).length<=2:=by unfold fX;split<;>simp
theorem Gm (b:aG) (t:aL) (hb:b.small) (hr:∀ p∈b.qs,p.dz):Abs.Spec Tryz.prog 170 [] [.agg b.cells,.agg t.cells] [.own 7 ((gS b t).ts.map aL.cells),.own 4 ((gS b t).qs.map aA.cells)] (.bD [.agg [.int .i64 (gS b t).next,.ref 0,.ref 1],.int .i64 (pN b t),.int .i64 (fM b t)]):=by
 have c1:=gX b hb hr;have c2:=rN t;have c3:=sv t false;have c4:=qQ b (fX t false) hb hr (by have:=Fz t false;omega);have hlt:=hb.1;simp only [aG.cells,aL.cells] at c1 c2 c3 c4 |-;refine aU 54 2 [.cell 4 33,.tmp 5,.tmp 6] mixed Tryz.func170 ?_;simp only [go_sem,seval];(with_reducible and_intros)<;>first|exact .dq|omega|skip
 refine aa.pure c1 ?_;cases b1:b.okB
 ·have e:fM b t=14:=by simp [fM,b1]
  simp only [go_sem,seval,gS,pN,e]
  all_goals simp
 obtain ⟨n1,n2,n3⟩:=OH b1;simp only [go_sem,seval];(with_reducible and_intros)<;>first|exact .dq|omega|skip
 refine aa.pure c2 ?_;cases b2:t.okB
 ·have e:fM b t=3:=by simp [fM,b1,b2]
  simp only [go_sem,seval,gS,pN,e]
  all_goals simp
 by_cases b3:128<=b.ts.length
 ·have e:fM b t=9:=by simp [fM,b1,b2,b3]
  have d:decide ((128:Int)<=(b.ts.length:Int))=true:=decide_eq_true (by omega);simp only [go_sem,seval,aI,d,gS,pN,e]
  all_goals simp
 have d3:decide ((128:Int)<=(b.ts.length:Int))=false:=decide_eq_false (by omega)
 by_cases b4:b.next=1099511627776
 ·have e:fM b t=1:=by simp only [fM,b1,b2,if_neg b3,if_pos b4];rfl
  have d:(b.next==1099511627776)=true:=by simpa using b4
  simp only [go_sem,seval,aI,d3,d,gS,pN,e]
  all_goals simp
 have d4:(b.next==1099511627776)=false:=by simpa using b4
 have e:fM b t=jq b (fX t false):=by simp only [fM,b1,b2,if_neg b3,if_neg b4];rfl
 have w:IntKind.wrap .i64 (b.next+1)=b.next+1:=bz (by omega) (by omega)
 simp only [gS,pN];rw [e];clear e c1 c2;simp only [go_sem,seval,aI,d3,d4];(with_reducible and_intros)<;>first|exact .dq|omega|skip
 refine aa.pure c3 ?_;simp only [go_sem,seval];(with_reducible and_intros)<;>first|exact .dq|omega|skip
 refine aa.gen [] [] false (by simp) ?_;simp only [go_sem,seval];refine bg.intro c4 ?_
 by_cases b5:jq b (fX t false)=0
 ·have hB:=(kN b5).2;rw [hB,b5];simp only [go_sem,seval,w,aI];(with_reducible and_intros)<;>first|exact .dq|omega|skip
  all_goals simp
 ·have hB:=M3 b5;have d5:(jq b (fX t false)==0)=false:=by simpa using b5
  rw [hB,if_neg b5,if_neg b5];simp only [go_sem,seval,bne,d5,aI];(with_reducible and_intros)<;>first|exact .dq|omega|skip
  all_goals simp
theorem uQ (b:aG) (t:aL) (hb:b.small) (hr:∀ p∈b.qs,p.dz):Abs.Spec Tryz.prog 170 [] [.agg b.cells,.agg t.cells] [] (.bD [.agg (gS b t).cells,.int .i64 (pN b t),.int .i64 (fM b t)]):=by
 refine Spec.frozen (Gm b t hb hr) [0,1] rfl ?_;intro r;rcases r with _ | _ | r<;>rfl
theorem tD {n:Int}:∀ {ts:List aL},¬ gq n ts < 0->∃ (i:Nat) (h:i < ts.length),gq n ts=i/\PC n ts[i]=true
 | [],h=>by simp [gq] at h
 | t :: r,h=>by
  simp only [gq] at h |-;split at h
  ·rename_i h1;exact ⟨0,by simp,by rw [if_pos h1];rfl,h1⟩
  ·rename_i h1;split at h
   ·omega
   ·rename_i h2;obtain ⟨i,hi,e,ho⟩:=tD (ts:=r) h2;refine ⟨i+1,by simp;omega,?_,by simpa using ho⟩;rw [if_neg h1,if_neg h2,e];rfl
def cr (n:Int) (ts:List aL):aL:=ts.getD (gq n ts).toNat ⟨0,0,0,0,0,0,false⟩
def NO (n:Int) (ts:List aL):List aL:=ts.set (gq n ts).toNat { cr n ts with off:=true }
def eG (b:aG) (n:Int):Int:=if b.okB then (if gq n b.ts < 0 then 10 else jq b (fX (cr n b.ts) true)) else 14
def dI (b:aG) (n:Int):aG:=if eG b n=0 then ⟨b.next,NO n b.ts,vS b (fX (cr n b.ts) true) 16⟩ else ⟨0,[],[]⟩
theorem D5 (b:aG) (n:Int) (hb:b.small) (hr:∀ p∈b.qs,p.dz):Abs.Spec Tryz.prog 173 [] [.agg b.cells,.int .i64 n] [.own 7 ((dI b n).ts.map aL.cells),.own 4 ((dI b n).qs.map aA.cells)] (.bD [.agg [.int .i64 (dI b n).next,.ref 0,.ref 1],.int .i64 (eG b n)]):=by
 have c1:=gX b hb hr;have c2:=qK b n hb;have c3:=sv (cr n b.ts) true;have c4:=qQ b (fX (cr n b.ts) true) hb hr (by have:=Fz (cr n b.ts) true;omega);have hlt:=hb.1;simp only [aG.cells] at c1 c2 c3 c4 |-;refine aU 40 2 [.cell 4 33,.tmp 5] mixed Tryz.func173 ?_;simp only [go_sem,seval];(with_reducible and_intros)<;>first|exact .dq|omega|skip
 refine aa.pure c1 ?_;cases b1:b.okB
 ·have e:eG b n=14:=by simp [eG,b1]
  simp only [go_sem,seval,dI,e]
  all_goals simp
 simp only [go_sem,seval];(with_reducible and_intros)<;>first|exact .dq|omega|skip
 refine aa.pure c2 ?_
 by_cases b2:gq n b.ts < 0
 ·have e:eG b n=10:=by simp [eG,b1,b2]
  have d:decide (gq n b.ts < 0)=true:=decide_eq_true b2;simp only [go_sem,seval,d,dI,e]
  all_goals simp
 have d2:decide (gq n b.ts < 0)=false:=decide_eq_false b2;have e:eG b n=jq b (fX (cr n b.ts) true):=by simp only [eG,b1,if_neg b2];rfl
 obtain ⟨i,hi,hfi,hon⟩:=tD b2;have hm:=aD (c:=aL.cells) b.ts hi;have hta:cr n b.ts=b.ts[i]:=by simp [cr,hfi,hi]
 have hli:(i:Int) < (b.ts.length:Int):=by omega
 have hoff:NO n b.ts=b.ts.set i { b.ts[i] with off:=true }:=by simp [NO,hta,hfi]
 simp only [dI];rw [e];rw [hta] at c3 c4 |-;rw [hoff];clear e c1 c2 hta hoff;obtain ⟨t,ht⟩:=aO (b.ts[i]);rw [<- ht] at hm c3 c4 |-;simp only [aL.cells] at hm c3;simp only [go_sem,seval,d2,hfi,hm,aI];rw [hfi] at d2;simp only [go_sem,seval,d2,hfi,hm,aI];(with_reducible and_intros)<;>first|exact .dq|omega|skip
 refine aa.pure c3 ?_;simp only [go_sem,seval];(with_reducible and_intros)<;>first|exact .dq|omega|skip
 refine aa.gen [] [] false (by simp) ?_;simp only [go_sem,seval];refine bg.intro c4 ?_
 by_cases b5:jq b (fX t true)=0
 ·have hB:=(kN b5).2;rw [hB,b5];simp only [go_sem,seval,hm,aI];(with_reducible and_intros)<;>first|exact .dq|omega|skip
  all_goals simp [List.map_set]
 ·have hB:=M3 b5;have d5:(jq b (fX t true)==0)=false:=by simpa using b5
  rw [hB,if_neg b5];simp only [go_sem,seval,bne,d5,aI];(with_reducible and_intros)<;>first|exact .dq|omega|skip
  all_goals simp
theorem sX (b:aG) (n:Int) (hb:b.small) (hr:∀ p∈b.qs,p.dz):Abs.Spec Tryz.prog 173 [] [.agg b.cells,.int .i64 n] [] (.bD [.agg (dI b n).cells,.int .i64 (eG b n)]):=by
 refine Spec.frozen (D5 b n hb hr) [0,1] rfl ?_;intro r;rcases r with _ | _ | r<;>rfl
theorem D0 (b:aG) (n:Int) (hb:b.small):(dI b n).small:=by
 unfold dI;split
 ·refine ⟨by simpa [NO] using hb.1,?_⟩;have:=Au b (fX (cr n b.ts) true) 16
  show (vS b (fX (cr n b.ts) true) 16).length < _
  omega
 ·exact ⟨by simp,by simp⟩
theorem S9 {b:aG} {g:List aA} {w n:Int} (hw:fy w) (hn:fy n) (h:Co b g w n=true):∀ p∈EJ b g w n,p.dz:=by
 intro p hp;unfold EJ at hp;split at hp
 ·cases hp
 ·obtain rfl:=List.mem_singleton.1 hp;simp only [Co,cg] at h;exact ⟨hw,hn,n8 h.1,n8 h.2.1⟩
theorem wv {b:aG} {g:List aA} {p:aA}:∀ {i:Nat},p∈vS b g i->∃ k m:Nat,k < i/\m < 8/\p∈EJ b g ((k:Int)+1) ((m:Int)+1):=by
 intro i hp;obtain ⟨k,hk,hp⟩:=List.mem_flatMap.1 hp;obtain ⟨m,hm,hp⟩:=List.mem_flatMap.1 hp;exact ⟨k,m,List.mem_range.1 hk,List.mem_range.1 hm,hp⟩
theorem Cr {b:aG} {g:List aA} (h:zu b g=true) {k m:Nat} (hk:k < 16) (hm:m < 8):Co b g ((k:Int)+1) ((m:Int)+1)=true:=by
 have:=List.all_eq_true.1 h k (List.mem_range.2 hk);exact List.all_eq_true.1 this m (List.mem_range.2 hm)
theorem tG {b:aG} {g:List aA} (h:jq b g=0):g.all pW=true/\ES g=true/\zu b g=true:=by
 unfold jq at h;split at h
 ·split at h
  ·split at h
   ·split at h
    ·exact ⟨by assumption,by assumption,by assumption⟩
    ·cases h
   ·cases h
  ·cases h
 ·cases h
theorem Nb {b:aG} {g:List aA} (h:jq b g=0):∀ p∈vS b g 16,p.dz:=by
 intro p hp;obtain ⟨k,m,hk,hm,hp⟩:=wv hp;exact S9 ⟨by omega,by omega⟩ ⟨by omega,by omega⟩ (Cr (tG h).2.2 hk hm) p hp
theorem nL {b:aG} {n:Int} (h:eG b n=0):b.okB=true /\ ¬ gq n b.ts < 0/\jq b (fX (cr n b.ts) true)=0:=by
 unfold eG at h;split at h
 ·split at h
  ·cases h
  ·exact ⟨by assumption,by assumption,h⟩
 ·cases h
theorem JW {b:aG} {n:Int}:∀ p∈(dI b n).qs,p.dz:=by
 unfold dI;split
 ·rename_i h;exact Nb (nL h).2.2
 ·intro p hp;cases hp
def qj (b:aG) (n q p:Int):Int:=if eG b n=0 then fM (dI b n) { cr n b.ts with aX:=q,aR:=p } else eG b n
def om (b:aG) (n q p:Int):aG:=if eG b n=0 then gS (dI b n) { cr n b.ts with aX:=q,aR:=p } else ⟨0,[],[]⟩
def C8 (b:aG) (n q p:Int):Int:=if eG b n=0 then pN (dI b n) { cr n b.ts with aX:=q,aR:=p } else 0
theorem Ag (b:aG) (n q p:Int) (hb:b.small) (hr:∀ p∈b.qs,p.dz):Abs.Spec Tryz.prog 174 [] [.agg b.cells,.int .i64 n,.int .i64 q,.int .i64 p] [] (.bD [.agg (om b n q p).cells,.int .i64 (C8 b n q p),.int .i64 (qj b n q p)]):=by
 have c1:=sX b n hb hr;have c2:=qK b n hb;have c3:=uQ (dI b n) { cr n b.ts with aX:=q,aR:=p } (D0 b n hb) JW;have hlt:=hb.1;simp only [qj,om,C8];obtain ⟨B,hB⟩:=aO (dI b n);obtain ⟨T,hT⟩:=aO (cr n b.ts);rw [<- hB,<- hT] at c3;rw [<- hB] at c1;rw [<- hB,<- hT];simp only [aG.cells,aL.cells] at c1 c2 c3 |-;refine aU 41 4 [.cell 8 33,.tmp 9,.tmp 10] mixed Tryz.func174 ?_;simp only [go_sem,seval];(with_reducible and_intros)<;>first|exact .dq|omega|skip
 refine aa.pure c1 ?_
 by_cases b1:eG b n=0
 case neg =>
  have d:(eG b n==0)=false:=by simpa using b1
  rw [if_neg b1,if_neg b1,if_neg b1];simp only [go_sem,seval,bne,d]
  all_goals simp
 obtain ⟨i,hi,hfi,hon⟩:=tD (nL b1).2.1;have hm:=aD (c:=aL.cells) b.ts hi;have hta:T=b.ts[i]:=by rw [hT];simp [cr,hfi,hi]
 have hli:(i:Int) < (b.ts.length:Int):=by omega
 rw [<- hta] at hm;rw [hfi] at c2;simp only [aL.cells] at hm;rw [b1];simp only [go_sem,seval];(with_reducible and_intros)<;>first|exact .dq|omega|skip
 refine aa.pure c2 ?_;simp only [go_sem,seval,hm,aI];(with_reducible and_intros)<;>first|exact .dq|omega|skip
 refine aa.pure c3 ?_;simp only [go_sem,seval]
def dR (x:ay):Int:=if x.set==0 then x.aR else x.set
def nX (x:ay):Bool:=!(x.set==0&&x.aR==0)
def B3 (r:aq) (p:aA):Int:=
 if bf r p.inst then (if !nX (aV r p.inst)&&!(p.aX==0) then 20 else if bS (gP p (aV r p.inst).mult (dR (aV r p.inst)))&&bS (p.aX*dR (aV r p.inst)) then 0 else 1) else 10
def nW (r:aq):List aA->Int
 | []=>0
 | p :: t=>if B3 r p=0 then nW r t else B3 r p
def wT (r:aq) (p:aA):aN:=⟨p.who,(aV r p.inst).cur,gP p (aV r p.inst).mult (dR (aV r p.inst))⟩
def mP (r:aq) (p:aA):List aA:=if p.aX==0&&p.aX*dR (aV r p.inst)==0 then [] else [⟨p.who,p.inst,p.aX,p.aX*dR (aV r p.inst)⟩]
def um (r:aq) (b:aG):Int:=if r.okB&&b.okB then nW r b.qs else 14
def vf (r:aq) (b:aG):aG:=if um r b=0 then ⟨b.next,b.ts,b.qs.flatMap (mP r)⟩ else ⟨0,[],[]⟩
def oZ (r:aq) (b:aG):List aN:=if um r b=0 then b.qs.map (wT r) else []
theorem mF (b:aG) (h:b.small):Abs.Spec Tryz.prog 95 [] [.agg b.cells] [] (.agg b.cells):=by
 refine Spec.frozen (pF b h) [0,1] rfl ?_;intro r;rcases r with _ | _ | r<;>rfl
theorem KH {x:ay} (h:x.ok=true):0<=dR x/\dR x<=1073741824:=by
 simp only [ay.ok,within,cg,decide_eq_true_eq] at h;unfold dR;split<;>omega
theorem Br {b:aG} (h:b.okB=true):∀ p∈b.qs,p.okB=true:=by
 intro p hp;simp only [aG.okB,cg] at h;obtain ⟨i,hi,rfl⟩:=List.mem_iff_getElem.1 hp;exact G9 h.1 hi
theorem Ct {p:aA} (h:p.okB=true):-1099511627776<=p.aX/\p.aX<=1099511627776/\bS p.cost=true:=by
 simp only [aA.okB,within,cg,decide_eq_true_eq] at h;exact ⟨h.2.1.1,h.2.1.2,h.2.2.1⟩
theorem LO (r:aq) (b:aG) (h:r.gZ) (hb:b.small) (hr:∀ p∈b.qs,p.dz):Abs.Spec Tryz.prog 176 [] [.agg r.cells,.agg b.cells] [.own 4 ((vf r b).qs.map aA.cells),.own 3 ((oZ r b).map aN.cells)] (.bD [.agg [.int .i64 (vf r b).next,.sl 7 ((vf r b).ts.map aL.cells),.ref 0],.ref 1,.int .i64 (um r b)]):=by
 have c1:=dK r h.small;have c2:=gX b hb hr;have c3:=fun n=>dc r n h.small
 have c4:=mF b hb;have hql:=hb.2;simp only [aq.cells,aG.cells] at c1 c2 c3 c4 |-;refine aU 117 2 [.cell 4 33,.tmp 5,.tmp 6] mixed Tryz.func176 ?_;simp only [go_sem,seval];(with_reducible and_intros)<;>first|exact .dq|omega|skip
 refine aa.pure c1 ?_;cases b1:r.okB
 ·have e:um r b=14:=by simp [um,b1]
  simp only [go_sem,seval,vf,oZ,e]
  all_goals simp
 simp only [go_sem,seval];(with_reducible and_intros)<;>first|exact .dq|omega|skip
 refine aa.pure c2 ?_;cases b2:b.okB
 ·have e:um r b=14:=by simp [um,b1,b2]
  simp only [go_sem,seval,vf,oZ,e]
  all_goals simp
 have e:um r b=nW r b.qs:=by simp [um,b1,b2]
 have hpos:=Br b2;simp only [vf,oZ];rw [e];clear e c1 c2;simp only [go_sem,seval];(with_reducible and_intros)<;>first|exact .dq|omega|skip
 refine aa.pure c4 ?_;clear c4;simp only [go_sem,seval];(with_reducible and_intros)<;>first|exact .dq|omega|skip
 refine aB.walk (S:=Unit) b.qs.length [2,3,4,7] [48,64,80] (fun i _=>[(9,.int .i64 i),(8,.ref 1552)]) (fun i _=>[(128,.box [.int .i64 b.next,.sl 7 (b.ts.map aL.cells),.ref 1824]),(1552,.own 3 (((b.qs.take i).map (wT r)).map aN.cells)),(1824,.own 4 (((b.qs.take i).flatMap (mP r)).map aA.cells))]) (fun i _=>nW r (b.qs.drop i)=nW r b.qs) () rfl ?_ ?_ ?_
 ·simp only [go_sem,seval]<;>simp
 ·intro i _ hi hdi hwi hI;have hm:=aD (c:=aA.cells) b.qs hi;have hli:(i:Int) < (b.qs.length:Int):=by omega
  have hlt:(b.qs.take i).length=i:=by simp;omega
  have hq:=fA (mP r) hi
  have hql:((b.qs.take i).flatMap (mP r)).length<=i:=by
   have:=dZ (f:=mP r) (m:=1) (fun p=>by unfold mP;split<;>simp) (b.qs.take i);omega
  have hD:(b.qs.take (i+1)).map (wT r)=(b.qs.take i).map (wT r)++[wT r b.qs[i]]:=by rw [List.take_succ_eq_append_getElem hi,List.map_append];rfl
  obtain ⟨n1,n2,n3⟩:=Ct (hpos b.qs[i] (List.getElem_mem hi));obtain ⟨p,hp⟩:=aO (b.qs[i]);obtain ⟨Q,hQ⟩:=aO ((b.qs.take i).flatMap (mP r));obtain ⟨L,hL⟩:=aO ((b.qs.take i).map (wT r));have hLl:L.length=i:=by rw [hL];simp;omega
  have c3k:=c3 p.inst;have hxok:=fun hh=>uj (r:=r) (n:=p.inst) b1 hh
  obtain ⟨x,hx⟩:=aO (aV r p.inst);rw [dJ hi,<- hp] at hI;simp only [nW,B3,<- hx] at hI;rw [<- hp,<- hQ] at hq;rw [<- hp,<- hL] at hD;rw [<- hQ] at hql;simp only [mP,<- hx] at hq;simp only [wT,<- hx] at hD;rw [<- hp] at hm n1 n2 n3;rw [<- hx] at c3k hxok;rw [<- hQ,<- hL];simp only [aA.cells] at hm;simp only [ay.cells] at c3k;clear c3 hQ hL hp hpos;simp only [go_sem,seval,aI,hdi,hm];(with_reducible and_intros)<;>first|exact .dq|omega|skip
  refine aa.pure c3k ?_;cases q1:bf r p.inst
  ·simp only [q1,ir,if_false] at hI;have hE:nW r b.qs=10:=hI.symm;simp only [go_sem,seval,q1,hE]
   all_goals simp
  simp only [q1,if_true] at hI;have hxok:=hxok q1;have hpr:=KH hxok;have hmu:=(nQ hxok).1;have c5:=uP x;have c6:=uD p x.mult (dR x) ⟨by omega,by omega⟩ n3 (by omega) hpr;have c7:=zk p.aX (dR x) ⟨by omega,by omega⟩ ⟨by omega,by omega⟩;have ep:(if x.set==0 then x.aR else x.set)=dR x:=rfl;have eh:(!(x.set==0&&x.aR==0))=nX x:=rfl;rw [ep,eh] at c5;obtain ⟨W,hW⟩:=aO (gP p x.mult (dR x));obtain ⟨C,hC⟩:=aO (p.aX*dR x);rw [<- hW] at c6;rw [<- hC] at c7;rw [<- hW,<- hC] at hI;rw [<- hC] at hq;rw [<- hW] at hD;simp only [ay.cells] at c5;simp only [aA.cells] at c6;clear ep eh hW hC;simp only [go_sem,seval,q1];(with_reducible and_intros)<;>first|exact .dq|omega|skip
  refine aa.pure c5 ?_;cases q2:nX x
  case false =>
   cases q3:p.aX==0
   ·simp only [q2,q3,Bool.not_false,Bool.and_self,if_true] at hI;have hE:nW r b.qs=20:=hI.symm;simp only [go_sem,seval,q2,bne,q3,hE]
    all_goals simp
   simp only [q2,q3,Bool.not_true,Bool.and_false,ir,if_false] at hI;simp only [go_sem,seval,q2,bne,q3];(with_reducible and_intros)<;>first|exact .dq|omega|skip
   refine aa.pure c6 ?_;simp only [go_sem,seval];(with_reducible and_intros)<;>first|exact .dq|omega|skip
   refine aa.pure c7 ?_;cases q4:bS W
   ·simp only [q4,Bool.false_and,ir,if_false] at hI;have hE:nW r b.qs=1:=hI.symm;simp only [go_sem,seval,q4,hE]
    all_goals simp
   cases q5:bS C
   ·simp only [q4,q5,Bool.and_false,ir,if_false] at hI;have hE:nW r b.qs=1:=hI.symm;simp only [go_sem,seval,q4,q5,hE]
    all_goals simp
   simp only [q4,q5,Bool.and_self,if_true] at hI;cases q6:C==0
   ·simp only [q3,q6,Bool.and_false,ir,if_false] at hq;simp only [go_sem,seval,q4,q5,bne,q3,q6,hwi,aI];(with_reducible and_intros)<;>first|exact .dq|omega|skip
    refine ah.step () hi hI ?_;simp only [go_sem,seval,hq,hD]<;>simp
   ·simp only [q3,q6,Bool.and_self,if_true,List.append_nil] at hq;simp only [go_sem,seval,q4,q5,bne,q3,q6,hwi,aI];(with_reducible and_intros)<;>first|exact .dq|omega|skip
    refine ah.step () hi hI ?_;simp only [go_sem,seval,hq,hD]<;>simp
  simp only [q2,Bool.not_true,Bool.false_and,ir,if_false] at hI;simp only [go_sem,seval,q2];(with_reducible and_intros)<;>first|exact .dq|omega|skip
  refine aa.pure c6 ?_;simp only [go_sem,seval];(with_reducible and_intros)<;>first|exact .dq|omega|skip
  refine aa.pure c7 ?_;cases q4:bS W
  ·simp only [q4,Bool.false_and,ir,if_false] at hI;have hE:nW r b.qs=1:=hI.symm;simp only [go_sem,seval,q4,hE]
   all_goals simp
  cases q5:bS C
  ·simp only [q4,q5,Bool.and_false,ir,if_false] at hI;have hE:nW r b.qs=1:=hI.symm;simp only [go_sem,seval,q4,q5,hE]
   all_goals simp
  simp only [q4,q5,Bool.and_self,if_true] at hI
  cases q3:p.aX==0<;>cases q6:C==0<;>(
   simp only [q3,q6,Bool.and_self,Bool.and_false,Bool.false_and,ir,if_false,if_true,List.append_nil] at hq;simp only [go_sem,seval,q4,q5,bne,q3,q6,hwi,aI];(with_reducible and_intros)<;>first|exact .dq|omega|skip
   try refine ah.step () hi hI ?_
   try simp only [go_sem,seval,hq,hD])
  all_goals simp
 ·intro _ hdx hI;rw [List.drop_length] at hI;have hE:nW r b.qs=0:=hI.symm;simp only [go_sem,seval,aI,hdx,hE,List.take_length]
  all_goals simp
theorem Is (r:aq) (b:aG) (h:r.gZ) (hb:b.small) (hr:∀ p∈b.qs,p.dz):Abs.Spec Tryz.prog 176 [] [.agg r.cells,.agg b.cells] [] (.bD [.agg (vf r b).cells,.sl 3 ((oZ r b).map aN.cells),.int .i64 (um r b)]):=by
 refine Spec.frozen (LO r b h hb hr) [0,1] rfl ?_;intro r;rcases r with _ | _ | r<;>rfl
def lO (w c:Int) (x:au):Bool:=x.who==w&&x.cur==c
def cK (w c:Int):List au->Int
 | []=>-1
 | x :: r=>if lO w c x then 0 else if cK w c r < 0 then -1 else cK w c r+1
theorem zz {w c:Int}:∀ {xs:List au} {i:Nat} (h:i < xs.length),(∀ j (hj:j < xs.length),j < i->lO w c xs[j]=false)->lO w c xs[i]=true->cK w c xs=i
 | [],i,h,_,_=>by simp at h
 | x :: r,0,h,_,he=>by
  have he:lO w c x=true:=he;simp [cK,he]
 | x :: r,i+1,h,hn,he=>by
  have h0:lO w c x=false:=hn 0 (by simp) (by omega);have h2:=zz (xs:=r) (i:=i) (by simpa using h) (fun j hj hji=>hn (j+1) (by simpa using hj) (by omega)) he;simp only [cK,h0,h2];rw [if_neg (by simp),if_neg (by omega)];omega
theorem wN {w c:Int}:∀ {xs:List au},(∀ j (hj:j < xs.length),lO w c xs[j]=false)->cK w c xs = -1
 | [],_=>rfl
 | x :: r,hn=>by
  have h0:lO w c x=false:=hn 0 (by simp);have h2:=wN (xs:=r) (fun j hj=>hn (j+1) (by simpa using hj));simp [cK,h0,h2]
theorem oh {w c:Int}:∀ {xs:List au},¬ cK w c xs < 0->∃ (i:Nat) (h:i < xs.length),cK w c xs=i/\lO w c xs[i]=true
 | [],h=>by simp [cK] at h
 | t :: r,h=>by
  simp only [cK] at h |-;split at h
  ·rename_i h1;exact ⟨0,by simp,by rw [if_pos h1];rfl,h1⟩
  ·rename_i h1;split at h
   ·omega
   ·rename_i h2;obtain ⟨i,hi,e,ho⟩:=oh (xs:=r) h2;refine ⟨i+1,by simp;omega,?_,by simpa using ho⟩;rw [if_neg h1,if_neg h2,e];rfl
def lM (w c:Int) (xs:List au):au:=xs.getD (cK w c xs).toNat ⟨0,0,0,0⟩
theorem kq (w c:Int) (xs:List au) (hl:xs.length < 2 ^ 40):Abs.Spec Tryz.prog 217 [] [.int .i64 w,.int .i64 c,.sl 4 (xs.map au.cells)] [] (.int .i64 (cK w c xs)):=by
 refine aU 33 3 [.tmp 6] mixed Tryz.func217 ?_;simp only [go_sem,seval,aI];refine aB.walk (S:=Unit) xs.length [0,1,2] [] (fun i _=>[(7,.int .i64 i)]) (fun _ _=>[]) (fun i _=>∀ j (hj:j < xs.length),j < i->lO w c xs[j]=false) () (by intros;omega) ?_ ?_ ?_
 ·simp only [go_sem,seval]<;>simp
 ·intro i _ hi hdi hwi hI;have hm:=aD (c:=au.cells) xs hi;have hli:(i:Int) < (xs.length:Int):=by omega
  have hhit:=zz hi hI
  have hnext:lO w c xs[i]=false->∀ j (hj:j < xs.length),j < i+1->lO w c xs[j]=false:=fun h0 j hj hji=>by
   rcases Nat.lt_or_ge j i with h | h
   ·exact hI j hj h
   ·obtain rfl:j=i:=by omega
    exact h0
  obtain ⟨x,hx⟩:=aO (xs[i]);rw [<- hx] at hm hhit hnext;simp only [lO] at hhit hnext;simp only [au.cells] at hm;cases q1:x.who==w
  ·simp only [go_sem,seval,aI,hdi,hm,q1,hwi];(with_reducible and_intros)<;>first|exact .dq|omega|skip
   refine ah.step () hi (hnext (by simp [q1])) ?_;simp only [go_sem,seval]
  cases q2:x.cur==c
  ·simp only [go_sem,seval,aI,hdi,hm,q1,q2,hwi];(with_reducible and_intros)<;>first|exact .dq|omega|skip
   refine ah.step () hi (hnext (by simp [q2])) ?_;simp only [go_sem,seval]
  simp only [go_sem,seval,aI,hdi,hm,q1,q2,hhit (by simp [q1,q2])];(with_reducible and_intros)<;>first|exact .dq|omega|skip
 ·intro _ hdx hI;simp only [go_sem,seval,aI,hdx,wN (fun j hj=>hI j hj hj)]
def Gn (xs:List au) (x:au) (w c:Int):List au:=if x.who==w&&x.cur==c then (if 0 < x.bX then [x] else []) else if cK w c xs < 0 then [] else [lM w c xs]
def xX (xs:List au) (x:au) (w:Int) (i:Nat):List au:=oq (fun k=>Gn xs x w k) i
def xZ (xs:List au) (x:au) (i:Nat):List au:=oq (fun k=>xX xs x ((k:Int)+1) 3) i
theorem KB (xs:List au) (x:au) (w c:Int):(Gn xs x w c).length<=1:=by
 unfold Gn;split
 ·split<;>simp
 ·split<;>simp
theorem Js (xs:List au) (x:au) (w:Int) (i:Nat):(xX xs x w i).length<=i:=by
 have:=kE (f:=fun k=>Gn xs x w (k:Nat)) (m:=1) (fun k=>KB _ _ _ _) i;simpa [xX] using this
theorem JI (xs:List au) (x:au) (i:Nat):(xZ xs x i).length<=3*i:=kE (fun k=>Js _ _ _ _) i
theorem LC (xs:List au) (x:au) (hl:xs.length < 2 ^ 30):Abs.Spec Tryz.prog 218 [] [.sl 4 (xs.map au.cells),.agg x.cells] [.own 4 ((xZ xs x 16).map au.cells)] (.ref 0):=by
 have c1:=fun w c=>kq w c xs (by omega)
 refine aU 51 2 [.tmp 4] mixed Tryz.func218 ?_;simp only [au.cells];simp only [go_sem,seval];refine aB.walk (S:=Unit) 16 [0,3] [64] (fun i _=>[(6,.int .i64 ((i:Int)+1)),(5,.ref 592)]) (fun i _=>[(592,.own 4 ((xZ xs x i).map au.cells))]) (fun _ _=>True) () trivial ?_ ?_ ?_
 ·simp only [go_sem,seval,xZ,kn]<;>simp
 ·intro i _ hi _ _ _;obtain ⟨w,hw⟩:=aO ((i:Int)+1);have hd:decide (w<=16)=true:=decide_eq_true (by omega);have hww:IntKind.wrap .i64 (w+1)=((i+1:Nat):Int)+1:=by rw [bz (by omega) (by omega)];omega
  have hnx:xZ xs x (i+1)=xZ xs x i++xX xs x w 3:=by rw [hw];exact iZ _ i
  have hwl:=JI xs x i;obtain ⟨W,hW⟩:=aO (xZ xs x i);rw [<- hW] at hnx hwl |-;rw [<- hw];simp only [go_sem,seval,hd];refine aB.walk (S:=Unit) 3 [0,3,6] [64] (fun j _=>[(7,.int .i64 j),(5,.ref 592)]) (fun j _=>[(592,.own 4 ((W++xX xs x w j).map au.cells))]) (fun _ _=>True) () trivial ?_ ?_ ?_
  ·simp only [go_sem,seval,xX,kn]<;>simp
  ·intro c _ hc hdc hwc _;have hdc:decide ((c:Int) < 3)=true:=hdc;have hnc:xX xs x w (c+1)=xX xs x w c++Gn xs x w c:=iZ _ c;have hlc:=Js xs x w c;obtain ⟨V,hV⟩:=aO (W++xX xs x w c);have hVl:V.length<=100:=by rw [hV,List.length_append];omega
   have hnV:W++xX xs x w (c+1)=V++Gn xs x w c:=by rw [hnc,hV,List.append_assoc]
   have c1:=c1 w c;rw [<- hV];clear hV hnc hW hnx;simp only [Gn] at hnV
   have rest:(x.who==w&&x.cur==(c:Int))=false->∀ {Q:Prop},(cK w c xs < 0->W++xX xs x w (c+1)=V->Q)->(∀ (k:Nat) (hk:k < xs.length),cK w c xs=k->W++xX xs x w (c+1)=V++[xs[k]]->Q)->Q:=fun h0 Q f1 f2=>by
    by_cases h:cK w c xs < 0
    ·rw [h0,if_neg (by simp),if_pos h,List.append_nil] at hnV;exact f1 h hnV
    ·obtain ⟨k,hk,hk2,_⟩:=oh h;rw [h0,if_neg (by simp),if_neg h] at hnV;exact f2 k hk hk2 (by rw [hnV,lM,hk2];simp [hk])
   have hsw:(w==x.who)=(x.who==w):=by rw [Bool.eq_iff_iff];simp only [beq_iff_eq];exact eq_comm
   cases q1:x.who==w
   ·refine rest (by simp [q1]) (fun h hn=>?_) (fun k hk h hn=>?_)
    ·have d:decide (0<=cK w c xs)=false:=decide_eq_false (by omega);simp only [go_sem,seval,hdc,hsw,q1];(with_reducible and_intros)<;>first|exact .dq|omega|skip
     refine aa.pure c1 ?_;simp only [go_sem,seval,d,hwc];refine ah.step () hc trivial ?_;simp only [go_sem,seval,hn]
    ·have hm:=aD (c:=au.cells) xs hk;have hlk:(k:Int) < (xs.length:Int):=by omega
     simp only [au.cells] at hm;rw [h] at c1;simp only [go_sem,seval,hdc,hsw,q1];(with_reducible and_intros)<;>first|exact .dq|omega|skip
     refine aa.pure c1 ?_;simp only [go_sem,seval,hwc,hm,aI];(with_reducible and_intros)<;>first|exact .dq|omega|skip
     refine ah.step () hc trivial ?_;simp only [go_sem,seval,hn]<;>simp
   cases q2:x.cur==(c:Int)
   ·have q3:((c:Int)==x.cur)=false:=by rw [<- q2,Bool.eq_iff_iff];simp;omega
    refine rest (by simp [q2]) (fun h hn=>?_) (fun k hk h hn=>?_)
    ·have d:decide (0<=cK w c xs)=false:=decide_eq_false (by omega);simp only [go_sem,seval,hdc,hsw,q1,q2,q3];(with_reducible and_intros)<;>first|exact .dq|omega|skip
     refine aa.pure c1 ?_;simp only [go_sem,seval,d,hwc];refine ah.step () hc trivial ?_;simp only [go_sem,seval,hn]
    ·have hm:=aD (c:=au.cells) xs hk;have hlk:(k:Int) < (xs.length:Int):=by omega
     simp only [au.cells] at hm;rw [h] at c1;simp only [go_sem,seval,hdc,hsw,q1,q2,q3];(with_reducible and_intros)<;>first|exact .dq|omega|skip
     refine aa.pure c1 ?_;simp only [go_sem,seval,hwc,hm,aI];(with_reducible and_intros)<;>first|exact .dq|omega|skip
     refine ah.step () hc trivial ?_;simp only [go_sem,seval,hn]<;>simp
   have q3:((c:Int)==x.cur)=true:=by rw [<- q2,Bool.eq_iff_iff];simp;omega
   have q4:(w==x.who)=true:=by rw [<- q1,Bool.eq_iff_iff];simp;omega
   by_cases q5:0 < x.bX
   ·have d:decide (0 < x.bX)=true:=decide_eq_true q5;simp only [q1,q2,Bool.and_self,if_true,if_pos q5] at hnV;simp only [go_sem,seval,hdc,q1,q2,q3,q4,d,hwc,aI];(with_reducible and_intros)<;>first|exact .dq|omega|skip
    refine ah.step () hc trivial ?_;simp only [go_sem,seval,hnV]<;>simp
   ·have d:decide (0 < x.bX)=false:=decide_eq_false q5;simp only [q1,q2,Bool.and_self,if_true,if_neg q5,List.append_nil] at hnV;simp only [go_sem,seval,hdc,q1,q2,q3,q4,d,hwc];refine ah.step () hc trivial ?_;simp only [go_sem,seval,hnV]
  ·intro _ hdc _;have hdc:decide ((3:Int) < 3)=false:=hdc;simp only [go_sem,seval,hdc,hww];refine ah.step () hi trivial ?_;simp only [go_sem,seval,hnx]
 ·intro _ _ _;simp only [go_sem,seval]
theorem zB (xs:List au) (x:au) (hl:xs.length < 2 ^ 30):Abs.Spec Tryz.prog 218 [] [.sl 4 (xs.map au.cells),.agg x.cells] [] (.sl 4 ((xZ xs x 16).map au.cells)):=by
 refine Spec.frozen (LC xs x hl) [0] rfl ?_;intro r;rcases r with _ | r<;>rfl
def xm (d:aN):Bool:=(within d.who 1 16&&within d.cur 0 2)&&within d.bX 0 4611686018427387904
theorem qw (d:aN):Abs.Spec Tryz.prog 216 [] [.agg d.cells] [] (.bool (xm d)):=by
 have c1:=fD d.who;have c2:=fH d.cur;have c3:=eP d.bX 0 4611686018427387904;simp only [aN.cells,xm];refine aU 16 1 [.tmp 2] mixed Tryz.func216 ?_;simp only [go_sem,seval];(with_reducible and_intros)<;>first|exact .dq|omega|skip
 refine aa.pure c1 ?_;cases q1:within d.who 1 16
 ·simp only [go_sem,seval,Bool.false_and]
 simp only [go_sem,seval];(with_reducible and_intros)<;>first|exact .dq|omega|skip
 refine aa.pure c2 ?_;cases q2:within d.cur 0 2
 ·simp only [go_sem,seval,Bool.false_and,Bool.and_false]
 simp only [go_sem,seval];(with_reducible and_intros)<;>first|exact .dq|omega|skip
 refine aa.pure c3 ?_;simp only [go_sem,seval,Bool.true_and]
def A9 (xs:List au) (d:aN) (at_:Int):Int:=if lV bR bN xs then (if xm d&&within at_ 0 1099511627776 then 0 else 3) else 14
def Ae (xs:List au) (d:aN) (at_:Int):List au:=if A9 xs d at_=0 then xZ xs ⟨d.who,d.cur,d.bX,if cK d.who d.cur xs < 0 then at_ else (lM d.who d.cur xs).till⟩ 16 else []
theorem JT (xs:List au) (d:aN) (at_:Int) (hl:xs.length < 2 ^ 30):Abs.Spec Tryz.prog 182 [] [.sl 4 (xs.map au.cells),.agg d.cells,.int .i64 at_] [] (.bD [.sl 4 ((Ae xs d at_).map au.cells),.int .i64 (A9 xs d at_)]):=by
 have c1:=pJ xs hl;have c2:=qw d;have c3:=eP at_ 0 1099511627776;have c4:=kq d.who d.cur xs (by omega);have c5:=fun x=>zB xs x hl
 simp only [aN.cells,au.cells] at c2 c5 |-;refine aU 38 3 [.tmp 6,.tmp 7] mixed Tryz.func182 ?_;simp only [go_sem,seval];(with_reducible and_intros)<;>first|exact .dq|omega|skip
 refine aa.pure c1 ?_;cases b1:lV bR bN xs
 ·have e:A9 xs d at_=14:=by simp [A9,b1]
  simp only [go_sem,seval,Ae,e]<;>simp
 simp only [go_sem,seval];(with_reducible and_intros)<;>first|exact .dq|omega|skip
 refine aa.pure c2 ?_;cases b2:xm d
 ·have e:A9 xs d at_=3:=by simp [A9,b1,b2]
  simp only [go_sem,seval,Ae,e]<;>simp
 simp only [go_sem,seval];(with_reducible and_intros)<;>first|exact .dq|omega|skip
 refine aa.pure c3 ?_;cases b3:within at_ 0 1099511627776
 ·have e:A9 xs d at_=3:=by simp [A9,b1,b2,b3]
  simp only [go_sem,seval,Ae,e]<;>simp
 have e:A9 xs d at_=0:=by simp [A9,b1,b2,b3]
 simp only [Ae,e];simp only [go_sem,seval];(with_reducible and_intros)<;>first|exact .dq|omega|skip
 refine aa.pure c4 ?_
 by_cases h:cK d.who d.cur xs < 0
 ·have dd:decide (0<=cK d.who d.cur xs)=false:=decide_eq_false (by omega);have c5:=c5 ⟨d.who,d.cur,d.bX,at_⟩;rw [if_pos h];simp only [go_sem,seval,dd];(with_reducible and_intros)<;>first|exact .dq|omega|skip
  refine aa.pure c5 ?_;simp only [go_sem,seval]
 ·obtain ⟨k,hk,hk2,_⟩:=oh h;have hm:=aD (c:=au.cells) xs hk;have hlk:(k:Int) < (xs.length:Int):=by omega
  have hc:lM d.who d.cur xs=xs[k]:=by rw [lM,hk2];simp [hk]
  have c5:=c5 ⟨d.who,d.cur,d.bX,xs[k].till⟩;simp only [au.cells] at hm;rw [if_neg h,hc];simp only [go_sem,seval,hk2,hm,aI];(with_reducible and_intros)<;>first|exact .dq|omega|skip
  refine aa.pure c5 ?_;simp only [go_sem,seval]
def qo (xs:List au) (d:aN):Int:=if lV bR bN xs then (if xm d then 0 else 3) else 14
def Jc (xs:List au) (d:aN):au:=if cK d.who d.cur xs < 0 then ⟨d.who,d.cur,0,0⟩ else { lM d.who d.cur xs with bX:=max ((lM d.who d.cur xs).bX-d.bX) 0 }
def rE (xs:List au) (d:aN):List au:=if qo xs d=0 then xZ xs (Jc xs d) 16 else []
theorem vT (xs:List au) (d:aN) (hl:xs.length < 2 ^ 30):Abs.Spec Tryz.prog 162 [] [.sl 4 (xs.map au.cells),.agg d.cells] [] (.bD [.sl 4 ((rE xs d).map au.cells),.int .i64 (qo xs d)]):=by
 have c1:=pJ xs hl;have c2:=qw d;have c4:=kq d.who d.cur xs (by omega);have c5:=fun x=>zB xs x hl
 simp only [aN.cells,au.cells] at c2 c5 |-;refine aU 46 2 [.tmp 4,.tmp 5] mixed Tryz.func162 ?_;simp only [go_sem,seval];(with_reducible and_intros)<;>first|exact .dq|omega|skip
 refine aa.pure c1 ?_;cases b1:lV bR bN xs
 ·have e:qo xs d=14:=by simp [qo,b1]
  simp only [go_sem,seval,rE,e]<;>simp
 simp only [go_sem,seval];(with_reducible and_intros)<;>first|exact .dq|omega|skip
 refine aa.pure c2 ?_;cases b2:xm d
 ·have e:qo xs d=3:=by simp [qo,b1,b2]
  simp only [go_sem,seval,rE,e]<;>simp
 have e:qo xs d=0:=by simp [qo,b1,b2]
 simp only [rE,e];simp only [go_sem,seval];(with_reducible and_intros)<;>first|exact .dq|omega|skip
 refine aa.pure c4 ?_
 by_cases h:cK d.who d.cur xs < 0
 ·have dd:decide (cK d.who d.cur xs < 0)=true:=decide_eq_true h;have c5:=c5 ⟨d.who,d.cur,0,0⟩;simp only [Jc];rw [if_pos h];simp only [go_sem,seval,dd];(with_reducible and_intros)<;>first|exact .dq|omega|skip
  refine aa.pure c5 ?_;simp only [go_sem,seval]
 ·obtain ⟨k,hk,hk2,_⟩:=oh h;have hm:=aD (c:=au.cells) xs hk;have hlk:(k:Int) < (xs.length:Int):=by omega
  have hc:lM d.who d.cur xs=xs[k]:=by rw [lM,hk2];simp [hk]
  have hok:=G9 b1 hk;simp only [bR,within,cg,decide_eq_true_eq] at hok;simp only [xm,within,cg,decide_eq_true_eq] at b2;simp only [Jc];rw [if_neg h,hc];obtain ⟨x,hx⟩:=aO (xs[k]);rw [<- hx] at hm hok |-;have hw:IntKind.wrap .i64 (x.bX-d.bX)=x.bX-d.bX:=bz (by omega) (by omega);have c5:=c5 { x with bX:=max (x.bX-d.bX) 0 };simp only [au.cells] at hm c5;have dd:decide ((k:Int) < 0)=false:=decide_eq_false (by omega);simp only [go_sem,seval,hk2,dd,hm,aI,hw];(with_reducible and_intros)<;>first|exact .dq|omega|skip
  refine aa.pure c5 ?_;simp only [go_sem,seval]
def dQ (n:Int) (xs:List au):List au:=xs.flatMap fun x=>if x.till<=n then [x] else []
def ij (n:Int) (xs:List au):List au:=xs.flatMap fun x=>if x.till<=n then [] else [x]
theorem Ju (n:Int) (xs:List au) (hl:xs.length < 2 ^ 30):Abs.Spec Tryz.prog 184 [] [.int .i64 n,.sl 4 (xs.map au.cells)] [.own 4 ((dQ n xs).map au.cells),.own 4 ((ij n xs).map au.cells)] (.bD [.ref 0,.ref 1]):=by
 refine aU 38 2 [.tmp 4,.tmp 5] mixed Tryz.func184 ?_;simp only [go_sem,seval,aI];refine aB.walk (S:=Unit) xs.length [0,1] [] (fun i _=>[(8,.int .i64 i),(6,.ref 464),(7,.ref 576)]) (fun i _=>[(464,.own 4 ((dQ n (xs.take i)).map au.cells)),(576,.own 4 ((ij n (xs.take i)).map au.cells))]) (fun _ _=>True) () trivial ?_ ?_ ?_
 ·simp only [go_sem,seval]<;>simp [dQ,ij]
 ·intro i _ hi hdi hwi _;have hm:=aD (c:=au.cells) xs hi;have hli:(i:Int) < (xs.length:Int):=by omega
  have hlt:(xs.take i).length=i:=by simp;omega
  have hA:dQ n (xs.take (i+1))=dQ n (xs.take i)++_:=fA _ hi;have hB:ij n (xs.take (i+1))=ij n (xs.take i)++_:=fA _ hi;have hAl:(dQ n (xs.take i)).length<=1*(xs.take i).length:=dZ (fun x=>by split<;>simp) _;have hBl:(ij n (xs.take i)).length<=1*(xs.take i).length:=dZ (fun x=>by split<;>simp) _;obtain ⟨L,hL⟩:=aO (dQ n (xs.take i));obtain ⟨M,hM⟩:=aO (ij n (xs.take i));obtain ⟨x,hx⟩:=aO (xs[i]);rw [<- hL] at hA hAl;rw [<- hM] at hB hBl;rw [<- hx] at hA hB hm;rw [<- hL,<- hM];simp only [au.cells] at hm
  by_cases q:x.till<=n
  ·have d:decide (x.till<=n)=true:=decide_eq_true q;rw [if_pos q] at hA hB;simp only [go_sem,seval,aI,hdi,hm,d,hwi];(with_reducible and_intros)<;>first|exact .dq|omega|skip
   refine ah.step () hi trivial ?_;simp only [go_sem,seval,hA,hB]<;>simp
  ·have d:decide (x.till<=n)=false:=decide_eq_false q;rw [if_neg q] at hA hB;simp only [go_sem,seval,aI,hdi,hm,d,hwi];(with_reducible and_intros)<;>first|exact .dq|omega|skip
   refine ah.step () hi trivial ?_;simp only [go_sem,seval,hA,hB]<;>simp
 ·intro _ hdx _;simp only [go_sem,seval,aI,hdx,List.take_length]
theorem HC (n:Int) (xs:List au) (hl:xs.length < 2 ^ 30):Abs.Spec Tryz.prog 184 [] [.int .i64 n,.sl 4 (xs.map au.cells)] [] (.bD [.sl 4 ((dQ n xs).map au.cells),.sl 4 ((ij n xs).map au.cells)]):=by
 refine Spec.frozen (Ju n xs hl) [0,1] rfl ?_;intro r;rcases r with _ | _ | r<;>rfl
def bM (xs:List au) (ws:List Int):List au:=xs.flatMap fun x=>if qg ws x.who then [] else [x]
theorem th (xs:List au) (ws:List Int) (hl:xs.length < 2 ^ 30) (hs:ws.length < 2 ^ 30):Abs.Spec Tryz.prog 186 [] [.sl 4 (xs.map au.cells),.sl 1 (ints ws)] [.own 4 ((bM xs ws).map au.cells)] (.ref 0):=by
 refine aU 45 2 [.tmp 4] mixed Tryz.func186 ?_;simp only [go_sem,seval,aI];refine aB.walk (S:=Unit) xs.length [0,1] [] (fun i _=>[(6,.int .i64 i),(5,.ref 704)]) (fun i _=>[(704,.own 4 ((bM (xs.take i) ws).map au.cells))]) (fun _ _=>True) () trivial ?_ ?_ ?_
 ·simp only [go_sem,seval]<;>simp [bM]
 ·intro i _ hi hdi hwi _;have hm:=aD (c:=au.cells) xs hi;have hli:(i:Int) < (xs.length:Int):=by omega
  have hlt:(xs.take i).length=i:=by simp;omega
  have hA:bM (xs.take (i+1)) ws=bM (xs.take i) ws++_:=fA _ hi;have hAl:(bM (xs.take i) ws).length<=1*(xs.take i).length:=dZ (fun x=>by split<;>simp) _;obtain ⟨L,hL⟩:=aO (bM (xs.take i) ws);obtain ⟨x,hx⟩:=aO (xs[i]);rw [<- hL] at hA hAl |-;rw [<- hx] at hA hm;simp only [au.cells] at hm;simp only [go_sem,seval,aI,hdi,az];refine aB.walk (S:=Unit) ws.length [0,1,5,6] [704] (fun k _=>[(8,.int .i64 k),(7,.bool (qg (ws.take k) x.who))]) (fun _ _=>[]) (fun _ _=>True) () trivial ?_ ?_ ?_
  ·simp only [go_sem,seval]<;>simp [qg]
  ·intro k _ hk hdk hwk _;have hst:=xA ws x.who hk;have hlk:(k:Int) < (ws.length:Int):=by omega
   cases hb:qg (ws.take k) x.who
   ·rw [hb,Bool.false_or] at hst;simp only [go_sem,seval,aI,az,hdk,ints_at ws hk,hm,hwk];(with_reducible and_intros)<;>first|exact .dq|omega|skip
    refine ah.step () hk trivial ?_;simp only [go_sem,seval,hst]
   ·rw [hb,Bool.true_or] at hst;simp only [go_sem,seval,aI,az,hdk,ints_at ws hk,hm,hwk];(with_reducible and_intros)<;>first|exact .dq|omega|skip
    refine ah.step () hk trivial ?_;simp only [go_sem,seval,hst]
  ·intro _ hdk _;cases b1:qg ws x.who
   ·simp only [b1,ir,if_false] at hA;simp only [go_sem,seval,az,aI,hdk,List.take_length,b1,hm,hwi];(with_reducible and_intros)<;>first|exact .dq|omega|skip
    refine ah.step () hi trivial ?_;simp only [go_sem,seval,hA]<;>simp
   ·simp only [b1,if_true,List.append_nil] at hA;simp only [go_sem,seval,az,aI,hdk,List.take_length,b1,hm,hwi];(with_reducible and_intros)<;>first|exact .dq|omega|skip
    refine ah.step () hi trivial ?_;simp only [go_sem,seval,hA]<;>simp
 ·intro _ hdx _;simp only [go_sem,seval,az,aI,hdx,List.take_length]
theorem zT (xs:List au) (ws:List Int) (hl:xs.length < 2 ^ 30) (hs:ws.length < 2 ^ 30):Abs.Spec Tryz.prog 186 [] [.sl 4 (xs.map au.cells),.sl 1 (ints ws)] [] (.sl 4 ((bM xs ws).map au.cells)):=by
 refine Spec.frozen (th xs ws hl hs) [0] rfl ?_;intro r;rcases r with _ | r<;>rfl
def oW (l:List aN):Bool:=l.all fun d=>bS d.bX
theorem uG (l:List aN) (hl:l.length < 2 ^ 40):Abs.Spec Tryz.prog 242 [] [.sl 3 (l.map aN.cells)] [] (.bool (oW l)):=by
 refine aU 17 1 [.tmp 2] mixed Tryz.func242 ?_;simp only [go_sem,seval,aI];refine aB.walk (S:=Unit) l.length [0] [] (fun i _=>[(3,.int .i64 i)]) (fun _ _=>[]) (fun i _=>oW (l.drop i)=oW l) () rfl ?_ ?_ ?_
 ·simp only [go_sem,seval]<;>simp
 ·intro i _ hi hdi hwi hI;have hm:=aD (c:=aN.cells) l hi;obtain ⟨x,hx⟩:=aO (l[i]);have hN:=cY x.bX;have hli:(i:Int) < (l.length:Int):=by omega
  rw [dJ hi,<- hx] at hI;rw [<- hx] at hm;have hc:oW (x :: l.drop (i+1))=(bS x.bX&&oW (l.drop (i+1))):=rfl;rw [hc] at hI;simp only [aN.cells] at hm;simp only [go_sem,seval,aI,hdi,hm];(with_reducible and_intros)<;>first|exact .dq|omega|skip
  refine aa.pure hN ?_;cases b2:bS x.bX
  ·rw [b2,Bool.false_and] at hI;simp only [go_sem,seval,<- hI]
  rw [b2,Bool.true_and] at hI;simp only [go_sem,seval,hwi];refine ah.step () hi hI ?_;simp only [go_sem,seval]
 ·intro _ hdx hI;rw [List.drop_length] at hI;rw [<- hI];simp only [go_sem,seval,aI,hdx];rfl
def F7 (w c:Int) (d:aN):Bool:=d.who==w&&d.cur==c
def uw (w c:Int) (l:List aN):List Int:=pick (F7 w c) aN.bX l
def kF (w c:Int) (l:List aN):Int:=if oW l then (if bS (aC (uw w c l)) then 0 else 1) else 3
def jl (w c:Int) (l:List aN):Int:=if kF w c l=0 then aC (uw w c l) else 0
theorem uX (w c:Int) (l:List aN) (hl:l.length < 2 ^ 29):Abs.Spec Tryz.prog 188 [] [.int .i64 w,.int .i64 c,.sl 3 (l.map aN.cells)] [] (.bD [.int .i64 (jl w c l),.int .i64 (kF w c l)]):=by
 have hM:=uG l (by omega);refine aU 53 3 [.tmp 6,.tmp 7] mixed Tryz.func188 ?_;simp only [go_sem,seval];refine aa.pure hM ?_;cases b1:oW l
 ·have e:kF w c l=3:=by simp [kF,b1]
  simp only [go_sem,seval,jl,e]<;>simp
 have e:kF w c l=if bS (aC (uw w c l)) then 0 else 1:=by simp [kF,b1]
 have hmm:∀ x∈l,bS x.bX=true:=fun x hx=>List.all_eq_true.1 b1 x hx
 have hA:=cu (uw w c l) (kj fun x hx=>n8 (hmm x hx)) (by have:=bY (F7 w c) aN.bX l;unfold uw;omega);simp only [jl];rw [e];clear e hM;simp only [go_sem,seval,aI];refine aB.walk (S:=Unit) l.length [0,1,2] [] (fun i _=>[(9,.int .i64 i),(8,.ref 720)]) (fun i _=>[(720,.own 1 (ints (uw w c (l.take i))))]) (fun _ _=>True) () trivial ?_ ?_ ?_
 ·simp only [go_sem,seval]<;>simp [uw,pick,ints]
 ·intro i _ hi hdi hwi _;have hm:=aD (c:=aN.cells) l hi;have hs:ints (uw w c (l.take (i+1)))=ints (uw w c (l.take i))++_:=fJ (F7 w c) aN.bX hi;have hlen:(uw w c (l.take i)).length<=(l.take i).length:=bY (F7 w c) aN.bX (l.take i);have hlt:(l.take i).length=i:=by simp;omega
  have hli:(i:Int) < (l.length:Int):=by omega
  obtain ⟨x,hx⟩:=aO (l[i]);obtain ⟨L,hL⟩:=aO (uw w c (l.take i));rw [<- hL] at hs hlen |-;rw [<- hx] at hs hm;simp only [aN.cells] at hm;simp only [F7] at hs;cases q1:x.who==w
  ·simp only [q1,Bool.false_and,ir,if_false,List.append_nil] at hs;simp only [go_sem,seval,aI,hdi,hm,q1,hwi];(with_reducible and_intros)<;>first|exact .dq|omega|skip
   refine ah.step () hi trivial ?_;simp only [go_sem,seval,hs]
  cases q2:x.cur==c
  ·simp only [q1,q2,Bool.and_false,ir,if_false,List.append_nil] at hs;simp only [go_sem,seval,aI,hdi,hm,q1,q2,hwi];(with_reducible and_intros)<;>first|exact .dq|omega|skip
   refine ah.step () hi trivial ?_;simp only [go_sem,seval,hs]
  simp only [q1,q2,Bool.and_self,if_true] at hs;simp only [go_sem,seval,aI,hdi,hm,q1,q2,hwi,az];(with_reducible and_intros)<;>first|exact .dq|omega|skip
  refine ah.step () hi trivial ?_;simp only [go_sem,seval,hs]
 ·intro _ hdx _;simp only [go_sem,seval,hdx,aI,List.take_length];refine aa.gen [] [] true (by simp) ?_;simp only [go_sem,seval];refine bg.intro hA ?_;cases b2:bS (aC (uw w c l))
  ·simp only [go_sem,seval,b2,addN]<;>simp
  ·simp only [go_sem,seval,b2,addN]<;>simp
def jy (a b:aN):Bool:=decide (a.who < b.who)||(a.who==b.who&&decide (a.cur < b.cur))
theorem gx {a b:aN}:jy a b=true ↔ a.who < b.who\/(a.who=b.who/\a.cur < b.cur):=by simp [jy]
def aN.zero:aN:=⟨0,0,0⟩
def y9 (f:Bool) (last:aN) (s:Bool × aN) (d:aN):Bool:=(f||jy last d)&&(!s.1||jy d s.2)
def iq (f:Bool) (last:aN):List aN->Bool × aN->Bool × aN
 | [],s=>s
 | d :: r,s=>iq f last r (if y9 f last s d then (true,d) else s)
theorem yj {f:Bool} {last:aN}:∀ {l:List aN} {s:Bool × aN},(iq f last l s).1=true->iq f last l s=s\/((iq f last l s).2∈l/\(f||jy last (iq f last l s).2)=true)
 | [],s,_=>.inl rfl
 | d :: r,s,h=>by
  simp only [iq] at h |-;rcases yj (l:=r) h with e | ⟨h1,h2⟩
  ·rw [e];split
   ·rename_i hb;simp only [y9,cg] at hb;exact .inr ⟨by simp,hb.1⟩
   ·exact .inl rfl
  ·exact .inr ⟨by simp [h1],h2⟩
def L2 (f:Bool) (last:aN) (l:List aN):Nat:=l.countP fun d=>f||jy last d
theorem Qe {A:Type} {p q:A->Bool}:∀ {l:List A} {d:A},(∀ x,p x=true->q x=true)->d∈l->q d=true->p d=false->l.countP p < l.countP q
 | [],d,_,h,_,_=>by cases h
 | x :: r,d,hpq,hm,hq,hp=>by
  have hle:r.countP p<=r.countP q:=List.countP_mono_left fun y _ h=>hpq y h
  simp only [List.countP_cons];rcases List.mem_cons.1 hm with rfl | hm
  ·rw [hq,hp];simp;omega
  ·have:=Qe hpq hm hq hp
   by_cases hx:p x=true
   ·rw [if_pos hx,if_pos (hpq x hx)];omega
   ·rw [if_neg hx];omega
theorem FK {f:Bool} {last d:aN} {l:List aN} (hm:d∈l) (hd:(f||jy last d)=true):L2 false d l < L2 f last l:=by
 refine Qe (fun x hx=>?_) hm hd ?_
 ·rw [Bool.false_or] at hx;cases f
  ·rw [Bool.false_or] at hd |-;rw [gx] at hx hd |-;omega
  ·rfl
 ·rw [Bool.false_or];cases h:jy d d
  ·rfl
  ·rw [gx] at h;omega
def J5 (l:List aN) (d:aN):List aN:=if jl d.who d.cur l==0 then [] else [⟨d.who,d.cur,jl d.who d.cur l⟩]
def zY (l:List aN):Nat->Bool->aN->List aN->List aN × Int
 | 0,_,_,out=>(out,0)
 | n+1,f,last,out =>
  if (iq f last l (false,.zero)).1 then
   (if kF (iq f last l (false,.zero)).2.who (iq f last l (false,.zero)).2.cur l=0 then zY l n false (iq f last l (false,.zero)).2 (out++J5 l (iq f last l (false,.zero)).2)
    else ([],kF (iq f last l (false,.zero)).2.who (iq f last l (false,.zero)).2.cur l))
  else (out,0)
def jt (l:List aN):List aN × Int:=if oW l then zY l (l.length+1) true .zero [] else ([],3)
theorem yq (w c:Int) (l:List aN):bS (jl w c l)=true:=by
 unfold jl;split
 ·rename_i h;unfold kF at h;split at h
  ·split at h
   ·assumption
   ·cases h
  ·cases h
 ·rfl
theorem Lg (l:List aN) (hl:l.length < 2 ^ 29):Abs.Spec Tryz.prog 177 [] [.sl 3 (l.map aN.cells)] [.own 3 ((jt l).1.map aN.cells)] (.bD [.ref 0,.int .i64 (jt l).2]):=by
 have hM:=uG l (by omega);have hG:=fun w c=>uX w c l hl
 have hLs:∀ a b:aN,Abs.Spec Tryz.prog 243 [] [.agg a.cells,.agg b.cells] [] (.bool (jy a b)):=fun a b=>xD a b
 refine aU 78 1 [.tmp 2,.tmp 3] mixed Tryz.func177 ?_;simp only [go_sem,seval];refine aa.pure hM ?_;cases b1:oW l
 ·have e:jt l=([],3):=by simp [jt,b1]
  simp only [go_sem,seval,e]<;>simp
 have e:jt l=zY l (l.length+1) true .zero []:=by simp [jt,b1]
 obtain ⟨R,hR⟩:=aO (jt l);rw [<- hR];rw [<- hR] at e;clear hR hM;simp only [go_sem,seval]
 refine aB.Rw (T:=Nat × aN × List aN) [0,5] [] (fun s=>[(6,.int .i64 ((l.length+1-s.1:Nat):Int)),(4,.ref 1248)]) (fun s=>[(96,.box s.2.1.cells),(1248,.own 3 (s.2.2.map aN.cells))])
  (fun s=>L2 (s.1==l.length+1) s.2.1 l+1<=s.1/\s.1<=l.length+1/\s.2.2.length+s.1<=l.length+1/\zY l s.1 (s.1==l.length+1) s.2.1 s.2.2=R) (fun s=>s.1) (l.length+1,.zero,[]) ?_ ?_ ?_
 ·refine ⟨?_,Nat.le_refl _,by simp,by rw [e];simp⟩;have:L2 (l.length+1==l.length+1) aN.zero l<=l.length:=List.countP_le_length
  show L2 (l.length+1==l.length+1) aN.zero l+1<=l.length+1
  omega
 ·simp only [go_sem,seval,aN.zero]<;>simp
 rintro ⟨n,last,out⟩ ⟨h1,h2,h3,h4⟩
 dsimp only at h1 h2 h3 h4 |-;obtain ⟨m,rfl⟩:∃ m,n=m+1:=⟨n-1,by omega⟩
 have hk:l.length+1-(m+1)=l.length-m:=by omega
 obtain ⟨f,hf⟩:=aO ((m+1==l.length+1));have hf0:(((l.length-m:Nat):Int)==0)=f:=by rw [hf,Bool.eq_iff_iff];simp;omega
 rw [<- hf] at h1 h4;rw [hk];simp only [go_sem,seval];refine aB.walk (S:=Bool × aN) l.length [0,4,5,6,8] [96,1248] (fun i s=>[(9,.int .i64 i),(7,.bool s.1)]) (fun i s=>[(144,.box s.2.cells)]) (fun i s=>iq f last (l.drop i) s=iq f last l (false,.zero)) (false,.zero) rfl ?_ ?_ ?_
 ·simp only [go_sem,seval,aN.zero]<;>simp
 ·rintro i ⟨s1,s2⟩ hi hdi hwi hI
  have hm:=aD (c:=aN.cells) l hi;have hli:(i:Int) < (l.length:Int):=by omega
  obtain ⟨x,hx⟩:=aO (l[i]);have k1:=hLs last x;have k2:=hLs x s2;rw [dJ hi,<- hx] at hI;rw [<- hx] at hm;simp only [iq,y9] at hI;simp only [aN.cells] at hm k1 k2;clear hG hLs h4;cases f
  ·simp only [go_sem,seval,aI,hdi,hm,hf0];(with_reducible and_intros)<;>first|exact .dq|omega|skip
   refine aa.pure k1 ?_;cases q1:jy last x
   ·simp only [q1,Bool.false_or,Bool.false_and,ir,if_false] at hI;simp only [go_sem,seval,q1,hwi];(with_reducible and_intros)<;>first|exact .dq|omega|skip
    refine ah.step (s1,s2) hi hI ?_;simp only [go_sem,seval]
   cases s1
   ·simp only [q1,Bool.false_or,Bool.true_and,Bool.not_false,Bool.true_or,if_true] at hI;simp only [go_sem,seval,aI,q1,hm,hwi];(with_reducible and_intros)<;>first|exact .dq|omega|skip
    refine ah.step (true,x) hi hI ?_;simp only [go_sem,seval]
   simp only [go_sem,seval,q1,aI,hm];(with_reducible and_intros)<;>first|exact .dq|omega|skip
   refine aa.pure k2 ?_;cases q2:jy x s2
   ·simp only [q1,q2,Bool.false_or,Bool.true_and,Bool.not_true,ir,if_false] at hI;simp only [go_sem,seval,q2,hwi];(with_reducible and_intros)<;>first|exact .dq|omega|skip
    refine ah.step (true,s2) hi hI ?_;simp only [go_sem,seval]
   simp only [q1,q2,Bool.false_or,Bool.true_and,Bool.not_true,Bool.or_true,if_true] at hI;simp only [go_sem,seval,q2,hwi,aI,hm];(with_reducible and_intros)<;>first|exact .dq|omega|skip
   refine ah.step (true,x) hi hI ?_;simp only [go_sem,seval]
  ·cases s1
   ·simp only [Bool.true_or,Bool.true_and,Bool.not_false,if_true] at hI;simp only [go_sem,seval,aI,hdi,hm,hf0,hwi];(with_reducible and_intros)<;>first|exact .dq|omega|skip
    refine ah.step (true,x) hi hI ?_;simp only [go_sem,seval]
   simp only [go_sem,seval,aI,hdi,hm,hf0];(with_reducible and_intros)<;>first|exact .dq|omega|skip
   refine aa.pure k2 ?_;cases q2:jy x s2
   ·simp only [q2,Bool.true_or,Bool.true_and,Bool.not_true,Bool.or_false,ir,if_false] at hI;simp only [go_sem,seval,q2,hwi];(with_reducible and_intros)<;>first|exact .dq|omega|skip
    refine ah.step (true,s2) hi hI ?_;simp only [go_sem,seval]
   simp only [q2,Bool.true_or,Bool.true_and,Bool.not_true,Bool.or_true,if_true] at hI;simp only [go_sem,seval,q2,hwi,aI,hm];(with_reducible and_intros)<;>first|exact .dq|omega|skip
   refine ah.step (true,x) hi hI ?_;simp only [go_sem,seval]
 ·rintro ⟨s1,s2⟩ hdx hI
  rw [List.drop_length] at hI;have hI:iq f last l (false,.zero)=(s1,s2):=hI.symm;simp only [zY,hI] at h4;have hG:=hG s2.who s2.cur;have hin:=cR.1 (yq s2.who s2.cur l);cases s1
  ·simp only [ir,if_false] at h4;rw [<- h4];simp only [go_sem,seval,aI,hdx]
  have hmem:s2∈l/\(f||jy last s2)=true:=by
   have:=yj (f:=f) (last:=last) (l:=l) (s:=(false,.zero)) (by rw [hI]);rw [hI] at this;rcases this with h | h
   ·cases h
   ·exact h
  have hcn:=FK hmem.1 hmem.2;simp only [if_true] at h4;simp only [go_sem,seval,aI,hdx];(with_reducible and_intros)<;>first|exact .dq|omega|skip
  refine aa.pure hG ?_
  by_cases q1:kF s2.who s2.cur l=0
  case neg =>
   have d:(kF s2.who s2.cur l==0)=false:=by simpa using q1
   rw [if_neg q1] at h4;rw [<- h4];simp only [go_sem,seval,bne,d]
   all_goals simp
  rw [if_pos q1] at h4;have hwk:IntKind.wrap .i64 (((l.length-m:Nat):Int)+1)=((l.length+1-m:Nat):Int):=by rw [bz (by omega) (by omega)];omega
  have hfm:(m==l.length+1)=false:=by simp;omega
  simp only [J5] at h4;cases q2:jl s2.who s2.cur l==0
  ·simp only [q2,ir,if_false] at h4;simp only [go_sem,seval,bne,q1,q2,hwk,aI];(with_reducible and_intros)<;>first|exact .dq|omega|skip
   refine ⟨(m,s2,out++[⟨s2.who,s2.cur,jl s2.who s2.cur l⟩]),⟨?_,by omega,by simp;omega,by simp only [hfm];exact h4⟩,?_,by simp⟩
   ·simp only [hfm];omega
   ·simp only [go_sem,seval]<;>simp
  ·simp only [q2,if_true,List.append_nil] at h4;simp only [go_sem,seval,bne,q1,q2,hwk];(with_reducible and_intros)<;>first|exact .dq|omega|skip
   refine ⟨(m,s2,out),⟨?_,by omega,by simp;omega,by simp only [hfm];exact h4⟩,?_,by simp⟩
   ·simp only [hfm];omega
   ·simp only [go_sem,seval]
theorem ze (l:List aN) (hl:l.length < 2 ^ 29):Abs.Spec Tryz.prog 177 [] [.sl 3 (l.map aN.cells)] [] (.bD [.sl 3 ((jt l).1.map aN.cells),.int .i64 (jt l).2]):=by
 refine Spec.frozen (Lg l hl) [0] rfl ?_;intro r;rcases r with _ | r<;>rfl
end Go.Proofs.YtacacccbcndjoaaGreat
