/- The reference's legs of nets; greedy shares, falls, and what follows. No theorem of a claim. -/
import Derived.Test.YtacacccbcndjoaaGreatKF
set_option linter.unusedSimpArgs false
set_option linter.unusedVariables false
set_option maxHeartbeats 4000000
set_option maxRecDepth 16000
namespace Go.Proofs.YtacacccbcndjoaaGreat
open Go.Abs
theorem Ni (l:List aN):∀ (n:Nat) (f:Bool) (last:aN) (out:List aN),(∀ d∈out,bS d.bX=true)->∀ d∈(zY l n f last out).1,bS d.bX=true
 | 0,_,_,out,h=>h
 | n+1,f,last,out,h=>by
  simp only [zY];split
  ·split
   ·refine Ni l n _ _ _ ?_;intro d hd;rcases List.mem_append.1 hd with hd | hd
    ·exact h d hd
    ·unfold J5 at hd;split at hd
     ·cases hd
     ·obtain rfl:=List.mem_singleton.1 hd;exact yq _ _ _
   ·intro d hd;cases hd
  ·exact h
theorem JO (l:List aN):∀ (n:Nat) (f:Bool) (last:aN) (out:List aN),(zY l n f last out).1.length<=out.length+n
 | 0,_,_,out=>Nat.le_refl _
 | n+1,f,last,out=>by
  simp only [zY];split
  ·split
   ·refine Nat.le_trans (JO l n _ _ _) ?_;have:∀ d,(J5 l d).length<=1:=fun d=>by unfold J5;split<;>simp
    rw [List.length_append];have:=this (iq f last l (false,.zero)).2;omega
   ·simp
  ·simp
theorem HA (l:List aN):(∀ d∈(jt l).1,bS d.bX=true)/\(jt l).1.length<=l.length+1:=by
 unfold jt;split
 ·exact ⟨Ni l _ _ _ _ (by simp),Nat.le_trans (JO l _ _ _ _) (by simp)⟩
 ·exact ⟨by simp,by simp⟩
def nH (l:List aN):List aS:=l.flatMap fun d=>[⟨2,d.who,d.cur,d.bX⟩,⟨5,0,d.cur,-d.bX⟩]
def zx (l:List aN):Bool:=l.all fun d=>aJ.right ⟨2,d.who,d.cur⟩
def qm (l:List aN):Int:=if zx l then (if (jt l).2=0 then mX (nH (jt l).1) else (jt l).2) else 3
def oo (l:List aN):List aS:=if qm l=0 then iY (nH (jt l).1) else []
theorem EW (l:List aN):(nH l).length<=2*l.length:=dZ (fun d=>by simp) l
theorem zM (l:List aN) (hl:l.length < 2 ^ 27):Abs.Spec Tryz.prog 178 [] [.sl 3 (l.map aN.cells)] [] (.bD [.sl 4 ((oo l).map aS.cells),.int .i64 (qm l)]):=by
 have hN:=ze l (by omega);obtain ⟨hno,hnl⟩:=HA l;have hJ:=lZ (nH (jt l).1) (by have:=EW (jt l).1;omega)
 have e0:oo l=if zx l&&(jt l).2==0 then iY (nH (jt l).1) else []:=by
  by_cases hc:zx l=true
  ·by_cases h:(jt l).2=0
   ·by_cases h2:mX (nH (jt l).1)=0
    ·simp [oo,qm,hc,h,h2]
    ·simp [oo,qm,hc,h,h2,iY]
   ·simp [oo,qm,hc,h]
  ·simp [oo,qm,hc]
 simp only [qm];rw [e0];clear e0;obtain ⟨m,hm⟩:=aO ((jt l).1);obtain ⟨e,he⟩:=aO ((jt l).2);rw [<- hm] at hN hno hnl hJ;rw [<- he] at hN;rw [<- hm,<- he];clear hm he;refine aU 79 1 [.tmp 2,.tmp 3] mixed Tryz.func178 ?_;simp only [go_sem,seval,aI];refine aB.walk (S:=Unit) l.length [0] [] (fun i _=>[(4,.int .i64 i)]) (fun _ _=>[]) (fun i _=>zx (l.drop i)=zx l) () rfl ?_ ?_ ?_
 ·simp only [go_sem,seval]<;>simp
 ·intro i _ hi hdi hwi hI;have hm:=aD (c:=aN.cells) l hi;have hli:(i:Int) < (l.length:Int):=by omega
  obtain ⟨x,hx⟩:=aO (l[i]);have hR:=fL ⟨2,x.who,x.cur⟩;rw [dJ hi,<- hx] at hI;rw [<- hx] at hm;have hc:zx (x :: l.drop (i+1))=(aJ.right ⟨2,x.who,x.cur⟩&&zx (l.drop (i+1))):=rfl;rw [hc] at hI;simp only [aN.cells] at hm;simp only [aJ.cells] at hR;clear hN hJ;simp only [go_sem,seval,aI,hdi,hm];(with_reducible and_intros)<;>first|exact .dq|omega|skip
  refine aa.pure hR ?_;cases q:aJ.right ⟨2,x.who,x.cur⟩
  ·rw [q,Bool.false_and] at hI;rw [<- hI];simp only [go_sem,seval]<;>simp
  rw [q,Bool.true_and] at hI;simp only [go_sem,seval,hwi];refine ah.step () hi hI ?_;simp only [go_sem,seval]
 intro _ hdx hI;rw [List.drop_length] at hI;rw [<- hI,show zx []=true from rfl];clear hI;simp only [go_sem,seval,aI,hdx];(with_reducible and_intros)<;>first|exact .dq|omega|skip
 refine aa.pure hN ?_
 by_cases q:e=0
 case neg =>
  have d:(e==0)=false:=by simpa using q
  simp only [go_sem,seval,bne,d,if_neg q]
  all_goals simp
 rw [q,show (if ((0:Int)==0)=true then iY (nH m) else [])=iY (nH m) from rfl,if_pos rfl];simp only [go_sem,seval,aI];(with_reducible and_intros)<;>first|exact .dq|omega|skip
 clear hN hdx;refine aB.walk (S:=Unit) m.length [5] [] (fun i _=>[(8,.int .i64 i),(7,.ref 1200)]) (fun i _=>[(1200,.own 4 ((nH (m.take i)).map aS.cells))]) (fun _ _=>True) () trivial ?_ ?_ ?_
 ·simp only [go_sem,seval]<;>simp [nH]
 ·intro i _ hi hdi hwi _;have hm:=aD (c:=aN.cells) m hi;have hli:(i:Int) < (m.length:Int):=by omega
  have hs:nH (m.take (i+1))=nH (m.take i)++_:=fA _ hi;have hnl:=EW (m.take i);have hlt:(m.take i).length=i:=by simp;omega
  have hin:=cR.1 (hno m[i] (List.getElem_mem hi));obtain ⟨L,hL⟩:=aO (nH (m.take i));obtain ⟨x,hx⟩:=aO (m[i]);rw [<- hL] at hs hnl |-;rw [<- hx] at hs hm hin;have hw:IntKind.wrap .i64 (0-x.bX) = -x.bX:=by rw [bz (by omega) (by omega)];omega
  simp only [aN.cells] at hm;clear hJ;simp only [go_sem,seval,aI,hdi,hm,hw,hwi];(with_reducible and_intros)<;>first|exact .dq|omega|skip
  refine ah.step () hi trivial ?_;simp only [go_sem,seval,hs]<;>simp
 ·intro _ hdx _;simp only [go_sem,seval,aI,hdx,List.take_length];(with_reducible and_intros)<;>first|exact .dq|omega|skip
  refine aa.gen [1200] [] false (by simp) ?_;simp only [go_sem,seval];refine bg.intro hJ ?_;simp only [go_sem,seval]
theorem uC (l:List Int) (hl:l.length < 2 ^ 60):Abs.Spec Tryz.prog 281 [] [.sl 1 (ints l)] [] (.bool (right l)):=by
 refine aU 16 1 [.tmp 2] mixed Tryz.func281 ?_;simp only [go_sem,seval,az];refine aB.walk (S:=Unit) l.length [0] [] (fun i _=>[(3,.int .i64 i)]) (fun _ _=>[]) (fun i _=>right (l.drop i)=right l) () rfl ?_ ?_ ?_
 ·simp only [go_sem,seval]<;>simp
 ·intro i _ hi hdi hwi hI;have hm:=ints_at l hi;have hli:(i:Int) < (l.length:Int):=by omega
  obtain ⟨x,hx⟩:=aO (l[i]);have hN:=cY x;rw [dJ hi,<- hx] at hI;rw [<- hx] at hm;have hc:right (x :: l.drop (i+1))=(bS x&&right (l.drop (i+1))):=rfl;rw [hc] at hI;simp only [go_sem,seval,az,hdi,hm];(with_reducible and_intros)<;>first|exact .dq|omega|skip
  refine aa.pure hN ?_;cases q:bS x
  ·rw [q,Bool.false_and] at hI;rw [<- hI];simp only [go_sem,seval]
  rw [q,Bool.true_and] at hI;simp only [go_sem,seval,hwi];refine ah.step () hi hI ?_;simp only [go_sem,seval]
 ·intro _ hdx hI;rw [List.drop_length] at hI;rw [<- hI];simp only [go_sem,seval,az,hdx];rfl
def vW (l:List Int):Bool:=l.all fun x=>!decide (x < 0)
def yD:Int->List Int->List Int
 | _,[]=>[]
 | t,c :: r=>min t c :: yD (t-min t c) r
def G1:Int->List Int->Int
 | t,[]=>t
 | t,c :: r=>G1 (t-min t c) r
def rU (t:Int) (l:List Int):Int:=if (!decide (t < 0)&&bS t)&&right l then (if vW l then (if 1024 < l.length then 5 else 0) else 3) else 3
theorem Ek (t:Int) (l:List Int) (hl:l.length < 2 ^ 30):Abs.Spec Tryz.prog 255 [] [.int .i64 t,.sl 1 (ints l)] [.own 1 (ints (if rU t l=0 then yD t l else []))] (.bD [.ref 0,.int .i64 (if rU t l=0 then G1 t l else 0),.int .i64 (rU t l)]):=by
 have c1:=cY t;have c2:=uC l (by omega);refine aU 58 2 [.tmp 4,.tmp 5,.tmp 6] mixed Tryz.func255 ?_
 by_cases q0:t < 0
 ·have d:decide (t < 0)=true:=decide_eq_true q0;have e:rU t l=3:=by simp [rU,q0]
  rw [e];simp only [go_sem,seval,d]<;>simp [ints]
 have d0:decide (t < 0)=false:=decide_eq_false q0;simp only [go_sem,seval,d0];refine aa.pure c1 ?_;cases q1:bS t
 ·have e:rU t l=3:=by simp [rU,q1]
  rw [e];simp only [go_sem,seval]<;>simp [ints]
 simp only [go_sem,seval];refine aa.pure c2 ?_;cases q2:right l
 ·have e:rU t l=3:=by simp [rU,q2]
  rw [e];simp only [go_sem,seval]<;>simp [ints]
 have e:rU t l=if vW l then (if 1024 < l.length then 5 else 0) else 3:=by simp only [rU,d0,q1,q2];rfl
 rw [e];clear e c1 c2;have hin:=fun x hx=>cR.1 (List.all_eq_true.1 q2 x hx)
 have htin:=cR.1 q1;simp only [go_sem,seval,az];refine aB.walk (S:=Unit) l.length [0,1] [] (fun i _=>[(7,.int .i64 i)]) (fun _ _=>[]) (fun i _=>vW (l.drop i)=vW l) () rfl ?_ ?_ ?_
 ·simp only [go_sem,seval]<;>simp
 ·intro i _ hi hdi hwi hI;have hm:=ints_at l hi;have hli:(i:Int) < (l.length:Int):=by omega
  obtain ⟨x,hx⟩:=aO (l[i]);rw [dJ hi,<- hx] at hI;rw [<- hx] at hm;have hc:vW (x :: l.drop (i+1))=(!decide (x < 0)&&vW (l.drop (i+1))):=rfl;rw [hc] at hI
  by_cases q:x < 0
  ·have d:decide (x < 0)=true:=decide_eq_true q;rw [d,Bool.not_true,Bool.false_and] at hI;rw [<- hI];simp only [go_sem,seval,az,hdi,hm,d];(with_reducible and_intros)<;>first|exact .dq|omega|skip
   all_goals simp [ints]
  ·have d:decide (x < 0)=false:=decide_eq_false q;rw [d,Bool.not_false,Bool.true_and] at hI;simp only [go_sem,seval,az,hdi,hm,d,hwi];(with_reducible and_intros)<;>first|exact .dq|omega|skip
   refine ah.step () hi hI ?_;simp only [go_sem,seval]
 intro _ hdx hI;rw [List.drop_length] at hI;have hI:vW l=true:=hI.symm
 have hnn:∀ x∈l,0<=x:=fun x hx=>by
  have:=List.all_eq_true.1 hI x hx;simp only [Bool.not_eq_true',decide_eq_false_iff_not] at this;omega
 by_cases q4:1024 < l.length
 ·have d:decide (1024 < (l.length:Int))=true:=decide_eq_true (by omega);simp only [go_sem,seval,az,hdx,hI,if_pos q4,d];(with_reducible and_intros)<;>first|exact .dq|omega|skip
  all_goals simp [ints]
 have d4:decide (1024 < (l.length:Int))=false:=decide_eq_false (by omega);simp only [go_sem,seval,az,hdx,hI,if_neg q4,d4];(with_reducible and_intros)<;>first|exact .dq|omega|skip
 clear hdx hI;refine aB.walk (S:=Int × List Int) l.length [1] [] (fun i s=>[(9,.int .i64 i),(0,.int .i64 s.1),(8,.ref 848)]) (fun i s=>[(848,.own 1 (ints s.2))]) (fun i s=>(s.2++yD s.1 (l.drop i)=yD t l/\G1 s.1 (l.drop i)=G1 t l)/\(0<=s.1/\s.1<=t)/\s.2.length=i) (t,[]) ⟨⟨rfl,rfl⟩,by omega,rfl⟩ ?_ ?_ ?_
 ·simp only [go_sem,seval]<;>simp [ints]
 ·rintro i ⟨u,L⟩ hi hdi hwi ⟨⟨h1,h2⟩,h3,h4⟩
  dsimp only at h1 h2 h3 h4;have hm:=ints_at l hi;have hli:(i:Int) < (l.length:Int):=by omega
  have hx1:=hin _ (List.getElem_mem hi);have hx2:=hnn _ (List.getElem_mem hi);obtain ⟨x,hx⟩:=aO (l[i]);rw [dJ hi,<- hx] at h1 h2;rw [<- hx] at hm hx1 hx2;simp only [yD,G1] at h1 h2;have hw:IntKind.wrap .i64 (u-min u x)=u-min u x:=bz (by omega) (by omega);simp only [go_sem,seval,az,hdi,hm,hw,hwi];(with_reducible and_intros)<;>first|exact .dq|omega|skip
  refine ah.step (u-min u x,L++[min u x]) hi ⟨⟨by rw [List.append_assoc];exact h1,h2⟩,by omega,by simp [h4]⟩ ?_;simp only [go_sem,seval]<;>simp [ints]
 ·rintro ⟨u,L⟩ hdx ⟨⟨h1,h2⟩,h3,h4⟩
  dsimp only at h1 h2;rw [List.drop_length] at h1 h2;simp only [yD,G1,List.append_nil] at h1 h2;simp only [go_sem,seval,az,hdx,if_true,<- h1,<- h2]
  all_goals simp
theorem fF (a b c:Int):Abs.Spec Tryz.prog 254 [] [.int .i64 a,.int .i64 b,.int .i64 c] [] (.bool (within a b c)):=by
 refine aU 15 3 [.tmp 6] mixed Tryz.func254 ?_;simp only [go_sem,seval]
 repeat' with_reducible first|apply And.intro|exact .dq|refine aa.pure (by assumption) ?_|refine .aH (fun h=>?_) fun h=>?_|refine .aF (fun h=>?_) fun h=>?_|refine .aK (fun h=>?_) fun h=>?_|refine .split (fun h=>?_) fun h=>?_|refine .id ?_|refine ah.next (by omega) ?_ ?_|exact trivial|simp only [*,go_sem,seval]
 all_goals (simp_all [within];try omega)
structure dO where
 src:Int
 aX:Int
 aR:Int
deriving DecidableEq
@[reducible] def dO.cells (x:dO):List D:=[.int .i64 x.src,.int .i64 x.aX,.int .i64 x.aR]
def ahead (long:Bool) (a b:bp):Bool:=if a.aR==b.aR then decide (a.src < b.src) else decide (b.aR < a.aR)==long
theorem Ew (long:Bool) (a b:bp):Abs.Spec Tryz.prog 294 [] [.bool long,.agg a.cells,.agg b.cells] [] (.bool (ahead long a b)):=by
 simp only [bp.cells];refine aU 24 3 [.tmp 6] mixed Tryz.func294 ?_;cases q:a.aR==b.aR
 ·simp only [go_sem,seval,bne,q,ahead,ir,if_false]
  all_goals (with_reducible and_intros)<;>first|exact .dq|omega|skip
 ·simp only [go_sem,seval,bne,q,ahead,if_true]
  all_goals (with_reducible and_intros)<;>first|exact .dq|omega|skip
def kpos (long:Bool) (x:bp) (out:List bp):Nat->Nat
 | 0=>0
 | k+1=>if ahead long x (out.getD k ⟨0,0,0,0,0⟩) then kpos long x out k else k+1
theorem Ng (long:Bool) (x:bp) (out:List bp):∀ k,kpos long x out k<=k
 | 0=>Nat.le_refl _
 | k+1=>by
  simp only [kpos];split
  ·have:=Ng long x out k;omega
  ·exact Nat.le_refl _
def Jy (long:Bool) (x:bp) (out:List bp):List bp:=out.take (kpos long x out out.length)++x :: out.drop (kpos long x out out.length)
def Bs (long:Bool):List bp->List bp->List bp
 | out,[]=>out
 | out,x :: r=>Bs long (Jy long x out) r
def zL (long:Bool) (l:List bp):List bp:=Bs long [] l
theorem Qh (long:Bool) (x:bp) (out:List bp):(Jy long x out).length=out.length+1:=by
 have:=Ng long x out out.length;simp only [Jy,List.length_append,List.length_cons,List.length_take,List.length_drop];omega
theorem AY (long:Bool):∀ (l out:List bp),(Bs long out l).length=out.length+l.length
 | [],out=>rfl
 | x :: r,out=>by simp only [Bs,AY long r,Qh,List.length_cons];omega
def hole (x:bp) (out:List bp) (k:Nat):List bp:=(out++[x]).take (k+1)++out.drop k
theorem qq {x:bp} {out:List bp} {k:Nat} (h:k<=out.length):(hole x out k).length=out.length+1:=by
 simp only [hole,List.length_append,List.length_take,List.length_drop,List.length_cons,List.length_nil];omega
theorem Rg (x:bp) (out:List bp):hole x out out.length=out++[x]:=by
 rw [hole,List.take_of_length_le (by simp),List.drop_length,List.append_nil]
theorem BJ {x:bp} {out:List bp} {k:Nat} (h:k<=out.length) {j:Nat} (hj:j < out.length+1):(hole x out k)[j]'(by rw [qq h];exact hj)=if h1:j<=k then (out++[x])[j]'(by simp;omega) else out[j-1]'(by omega):=by
 simp only [hole];split
 ·rename_i h1;rw [List.getElem_append_left (by simp;omega),List.getElem_take]
 ·rename_i h1;rw [List.getElem_append_right (by simp;omega),List.getElem_drop];have:k+(j-((out++[x]).take (k+1)).length)=j-1:=by simp;omega
  simp only [this]
theorem SD {x:bp} {out:List bp} {k:Nat} (h:k+1<=out.length):(hole x out (k+1))[k]'(by rw [qq h];omega)=out[k]'(by omega):=by
 rw [BJ h (by omega),dif_pos (by omega),List.getElem_append_left (by omega)]
theorem QW {x:bp} {out:List bp} {k:Nat} (h:k+1<=out.length):(hole x out (k+1)).set (k+1) (out[k]'(by omega))=hole x out k:=by
 refine List.ext_getElem (by rw [List.length_set,qq h,qq (by omega)]) ?_;intro j h1 h2;have hj:j < out.length+1:=by rw [List.length_set,qq h] at h1;exact h1
 rw [List.getElem_set,BJ (k:=k) (by omega) hj,BJ h hj];split
 ·rename_i e;subst e;rw [dif_neg (by omega)];simp
 ·split
  ·rename_i e1 e2
   by_cases e3:j<=k
   ·rw [dif_pos e3]
   ·omega
  ·rename_i e1 e2;rw [dif_neg (by omega)]
theorem Ku {x:bp} {out:List bp} {k:Nat} (h:k<=out.length):(hole x out k).set k x=out.take k++x :: out.drop k:=by
 have hl:(out.take k).length=k:=by simp;omega
 have e:(out++[x]).take (k+1)=out.take k++[(out++[x])[k]'(by simp;omega)]:=by
  rw [List.take_succ_eq_append_getElem (by simp;omega),List.take_append_of_le_length h]
 rw [hole,e,List.append_assoc,List.set_append_right _ _ (by omega),hl,Nat.sub_self];rfl
theorem HG (long:Bool) (l:List bp) (hl:l.length < 2 ^ 29):Abs.Spec Tryz.prog 288 [] [.bool long,.sl 5 (l.map bp.cells)] [.own 5 ((zL long l).map bp.cells)] (.ref 0):=by
 have hA:=fun a b=>Ew long a b
 refine aU 56 2 [.tmp 4] mixed Tryz.func288 ?_;simp only [go_sem,seval,aI];refine aB.walk (S:=List bp) l.length [0,1] [] (fun i _=>[(6,.int .i64 i),(5,.ref 96)]) (fun _ s=>[(96,.own 5 (s.map bp.cells))]) (fun i s=>Bs long s (l.drop i)=zL long l/\s.length=i) [] ⟨rfl,rfl⟩ ?_ ?_ ?_
 ·simp only [go_sem,seval]<;>simp
 ·rintro i out hi hdi hwi ⟨hI,hol⟩
  have hm:=aD (c:=bp.cells) l hi;have hli:(i:Int) < (l.length:Int):=by omega
  obtain ⟨x,hx⟩:=aO (l[i]);rw [dJ hi,<- hx] at hI;rw [<- hx] at hm;simp only [Bs] at hI;simp only [bp.cells] at hm;simp only [go_sem,seval,aI,hdi,hm];(with_reducible and_intros)<;>first|exact .dq|omega|skip
  refine aB.Rw (T:=Nat) [0,1,6] [] (fun k=>[(7,.int .i64 k),(5,.ref 96)]) (fun k=>[(96,.own 5 ((hole x out k).map bp.cells))]) (fun k=>k<=out.length/\kpos long x out k=kpos long x out out.length) (fun k=>k) out.length ⟨Nat.le_refl _,rfl⟩ ?_ ?_
  ·simp only [go_sem,seval,Rg]<;>simp
  rintro k ⟨hk,hK⟩
  have hhl:=qq (x:=x) hk;rcases Nat.eq_zero_or_pos k with rfl | hpos
  ·have hfin:=Ku (x:=x) hk;have hins:Jy long x out=out.take 0++x :: out.drop 0:=by rw [Jy,<- hK];rfl
   rw [hins,<- hfin] at hI;have hI2:Bs long ((hole x out 0).set 0 x) (l.drop (i+1))=zL long l/\((hole x out 0).set 0 x).length=i+1:=⟨hI,by rw [List.length_set,hhl];omega⟩
   have hmz:=aD (c:=bp.cells) (hole x out 0) (i:=0) (by omega);simp only [bp.cells] at hmz;simp only [go_sem,seval];(with_reducible and_intros)<;>first|exact .dq|omega|skip
   refine fm.id ?_;simp only [go_sem,seval,hm,aI,hhl,hwi];(with_reducible and_intros)<;>first|exact .dq|omega|skip
   all_goals first
    | omega
    | (refine ah.step ((hole x out 0).set 0 x) hi hI2 ?_
       simp only [go_sem,seval,List.map_set,hmz])
  ·obtain ⟨j,rfl⟩:∃ j,k=j+1:=⟨k-1,by omega⟩
   have hj:j < (hole x out (j+1)).length:=by omega
   have hmj:=aD (c:=bp.cells) (hole x out (j+1)) hj;have hset:=QW (x:=x) hk;rw [SD hk] at hmj;have hgd:out.getD j ⟨0,0,0,0,0⟩=out[j]:=by simp [show j < out.length by omega]
   simp only [kpos,hgd] at hK;obtain ⟨y,hy⟩:=aO (out[j]'(by omega));rw [<- hy] at hmj hset hK;have hA:=hA x y;have hd0:decide (0 < ((j+1:Nat):Int))=true:=decide_eq_true (by omega);have hw1:IntKind.wrap .i64 (((j+1:Nat):Int)-1)=(j:Int):=by rw [bz (by omega) (by omega)];omega
   have hmz:=aD (c:=bp.cells) (hole x out (j+1)) (i:=j+1) (by omega);simp only [bp.cells] at hmj hA hmz;simp only [go_sem,seval,hd0,hm,aI,hhl,hw1,hmj];(with_reducible and_intros)<;>first|exact .dq|omega|skip
   refine aa.pure hA ?_;cases q:ahead long x y
   ·rw [q] at hK;have hfin:=Ku (x:=x) hk;have hins:Jy long x out=out.take (j+1)++x :: out.drop (j+1):=by rw [Jy,<- hK];rfl
    rw [hins,<- hfin] at hI;have hI2:Bs long ((hole x out (j+1)).set (j+1) x) (l.drop (i+1))=zL long l/\((hole x out (j+1)).set (j+1) x).length=i+1:=⟨hI,by rw [List.length_set,hhl];omega⟩
    simp only [go_sem,seval,q];(with_reducible and_intros)<;>first|exact .dq|omega|skip
    refine fm.id ?_;simp only [go_sem,seval,hm,aI,hhl,hwi];(with_reducible and_intros)<;>first|exact .dq|omega|skip
    all_goals first
     | omega
     | (refine ah.step ((hole x out (j+1)).set (j+1) x) hi hI2 ?_
        simp only [go_sem,seval,List.map_set,hmz])
   ·rw [q,if_pos rfl] at hK;simp only [go_sem,seval,q,hm,aI,hhl,hw1,hmj];(with_reducible and_intros)<;>first|exact .dq|omega|skip
    all_goals first
     | omega
     | (refine ⟨j,⟨by omega,hK⟩,?_,by show j < j+1;omega⟩
        simp only [go_sem,seval,List.map_set,<- hset,hmz])
 ·rintro out hdx ⟨hI,hol⟩
  rw [List.drop_length] at hI;have hI:out=zL long l:=hI;simp only [go_sem,seval,aI,hdx,<- hI]
theorem EK (long:Bool) (l:List bp) (hl:l.length < 2 ^ 29):Abs.Spec Tryz.prog 288 [] [.bool long,.sl 5 (l.map bp.cells)] [] (.sl 5 ((zL long l).map bp.cells)):=by
 refine Spec.frozen (HG long l hl) [0] rfl ?_;intro r;rcases r with _ | r<;>rfl
def qh (b:bp):Bool:=within b.aX 1 1048576&&within b.aR 1 1073741824
def kV:Int->List bp->List dO × Int
 | left,[]=>([],left)
 | left,b :: r=>if 0 < left then (⟨b.src,min left b.aX,b.aR⟩ :: (kV (left-min left b.aX) r).1,(kV (left-min left b.aX) r).2) else ([],left)
def qy (q:Int) (l:List bp):Int:=if within q (-1099511627776) 1099511627776&&l.all qh then 0 else 3
def jN (q:Int) (l:List bp):List dO × Int:=if qy q l=0 then kV (max q (-q)) (zL (decide (0 < q)) l) else ([],0)
theorem Fj:∀ (l:List bp) (left:Int),(kV left l).1.length<=l.length
 | [],_=>Nat.le_refl _
 | b :: r,left=>by
  simp only [kV];split
  ·have:=Fj r (left-min left b.aX);simp only [List.length_cons];omega
  ·simp
theorem Iu (q:Int) (l:List bp) (hl:l.length < 2 ^ 28):Abs.Spec Tryz.prog 275 [] [.int .i64 q,.sl 5 (l.map bp.cells)] [.own 3 ((jN q l).1.map dO.cells)] (.bD [.ref 0,.int .i64 (jN q l).2,.int .i64 (qy q l)]):=by
 have c1:=fF q (-1099511627776) 1099511627776;have c2:=EK (decide (0 < q)) l (by omega);have hol:(zL (decide (0 < q)) l).length=l.length:=by rw [zL,AY];simp
 refine aU 83 2 [.tmp 4,.tmp 5,.tmp 6] mixed Tryz.func275 ?_;simp only [go_sem,seval];refine aa.pure c1 ?_;cases b1:within q (-1099511627776) 1099511627776
 ·have e:qy q l=3:=by simp [qy,b1]
  simp only [go_sem,seval,jN,e]<;>simp
 have e:qy q l=if l.all qh then 0 else 3:=by simp [qy,b1]
 have hq:-1099511627776<=q/\q<=1099511627776:=by simpa [within] using b1
 simp only [jN];rw [e];clear e c1;simp only [go_sem,seval,aI];refine aB.walk (S:=Unit) l.length [0,1] [] (fun i _=>[(7,.int .i64 i)]) (fun _ _=>[]) (fun i _=>(l.drop i).all qh=l.all qh) () rfl ?_ ?_ ?_
 ·simp only [go_sem,seval]<;>simp
 ·intro i _ hi hdi hwi hI;have hm:=aD (c:=bp.cells) l hi;have hli:(i:Int) < (l.length:Int):=by omega
  obtain ⟨x,hx⟩:=aO (l[i]);have k1:=fF x.aX 1 1048576;have k2:=fF x.aR 1 1073741824;rw [dJ hi,<- hx] at hI;rw [<- hx] at hm;simp only [List.all_cons,qh] at hI;simp only [bp.cells] at hm;clear c2;simp only [go_sem,seval,aI,hdi,hm];(with_reducible and_intros)<;>first|exact .dq|omega|skip
  refine aa.pure k1 ?_;cases q1:within x.aX 1 1048576
  ·rw [q1,Bool.false_and,Bool.false_and] at hI;have hI':l.all qh=false:=hI.symm;simp only [go_sem,seval,q1,hI']<;>simp
  simp only [go_sem,seval,q1,aI,hm];(with_reducible and_intros)<;>first|exact .dq|omega|skip
  refine aa.pure k2 ?_;cases q2:within x.aR 1 1073741824
  ·rw [q1,q2,Bool.and_false,Bool.false_and] at hI;have hI':l.all qh=false:=hI.symm;simp only [go_sem,seval,q2,hI']<;>simp
  rw [q1,q2,Bool.and_self,Bool.true_and] at hI;simp only [go_sem,seval,q2,hwi];refine ah.step () hi hI ?_;simp only [go_sem,seval]
 intro _ hdx hI;rw [List.drop_length] at hI;have hI:l.all qh=true:=hI.symm
 have hord:∀ b∈zL (decide (0 < q)) l,qh b=true:=by
  have key:∀ (long:Bool) (m out:List bp),(∀ b∈out,qh b=true)->(∀ b∈m,qh b=true)->∀ b∈Bs long out m,qh b=true:=by
   intro long m
   induction m with
   | nil=>intro out h1 _;exact h1
   | cons x r ih =>
    intro out h1 h2;refine ih _ ?_ fun b hb=>h2 b (by simp [hb])
    intro b hb;rcases List.mem_append.1 hb with hb | hb
    ·exact h1 b (List.mem_of_mem_take hb)
    ·rcases List.mem_cons.1 hb with rfl | hb
     ·exact h2 b (by simp)
     ·exact h1 b (List.mem_of_mem_drop hb)
  exact key _ l [] (by simp) fun b hb=>List.all_eq_true.1 hI b hb
 rw [hI];clear hI;obtain ⟨o,ho⟩:=aO (zL (decide (0 < q)) l);rw [<- ho] at c2 hol hord |-;have hw0:IntKind.wrap .i64 (0-q) = -q:=by rw [bz (by omega) (by omega)];omega
 simp only [go_sem,seval,aI,hdx,hw0];(with_reducible and_intros)<;>first|exact .dq|omega|skip
 refine aa.pure c2 ?_;simp only [go_sem,seval,aI];(with_reducible and_intros)<;>first|exact .dq|omega|skip
 clear c2 hdx;refine aB.walk (S:=List dO × Int) o.length [9] [] (fun i s=>[(11,.int .i64 i),(8,.int .i64 s.2),(10,.ref 1296)]) (fun i s=>[(1296,.own 3 (s.1.map dO.cells))]) (fun i s=>(s.1++(kV s.2 (o.drop i)).1=(kV (max q (-q)) o).1/\(kV s.2 (o.drop i)).2=(kV (max q (-q)) o).2)/\s.1.length=i/\(0<=s.2/\s.2<=1099511627776)) ([],max q (-q)) ⟨⟨rfl,rfl⟩,rfl,by omega⟩ ?_ ?_ ?_
 ·simp only [go_sem,seval]<;>simp
 ·rintro i ⟨L,left⟩ hi hdi hwi ⟨⟨h1,h2⟩,h3,h4⟩
  dsimp only at h1 h2 h3 h4;have hm:=aD (c:=bp.cells) o hi;have hli:(i:Int) < (o.length:Int):=by omega
  have hxo:=hord _ (List.getElem_mem hi);obtain ⟨x,hx⟩:=aO (o[i]);rw [dJ hi,<- hx] at h1 h2;rw [<- hx] at hm hxo;simp only [qh,within,cg,decide_eq_true_eq] at hxo;simp only [kV] at h1 h2;simp only [bp.cells] at hm
  by_cases q5:0 < left
  ·have d:decide (0 < left)=true:=decide_eq_true q5;rw [if_pos q5] at h1 h2;have hw:IntKind.wrap .i64 (left-min left x.aX)=left-min left x.aX:=bz (by omega) (by omega);simp only [go_sem,seval,aI,hdi,hm,d,hw,hwi];(with_reducible and_intros)<;>first|exact .dq|omega|skip
   refine ah.step (L++[⟨x.src,min left x.aX,x.aR⟩],left-min left x.aX) hi ⟨⟨by rw [List.append_assoc];exact h1,h2⟩,by simp [h3],by dsimp only;omega⟩ ?_;simp only [go_sem,seval]<;>simp
  ·have d:decide (0 < left)=false:=decide_eq_false q5;rw [if_neg q5] at h1 h2;rw [List.append_nil] at h1;simp only [go_sem,seval,aI,hdi,hm,d,if_true,<- h1,<- h2]
   all_goals simp
 ·rintro ⟨L,left⟩ hdx ⟨⟨h1,h2⟩,h3,h4⟩
  dsimp only at h1 h2;rw [List.drop_length] at h1 h2;simp only [kV,List.append_nil] at h1 h2;simp only [go_sem,seval,aI,hdx,if_true,<- h1,<- h2]
  all_goals simp
def K9 (q n:Int) (p:aA):Bool:=p.inst==n&&((decide (0 < q)&&decide (p.aX < 0))||(decide (q < 0)&&decide (0 < p.aX)))
def yI (q n:Int) (l:List aA):List Int:=pick (K9 q n) aA.who l
def o7 (q n:Int) (l:List aA):List Int:=pick (K9 q n) (fun p=>max p.aX (-p.aX)) l
theorem EF (b:aG) (w n:Int) (hb:b.small) (hr:∀ p∈b.qs,-1099511627776<=p.aX/\p.aX<=1099511627776):Abs.Spec Tryz.prog 289 [] [.agg b.cells,.agg [.int .i64 w,.int .i64 n]] [.own 1 (ints (yI (posOf w n b.qs).aX n b.qs)),.own 1 (ints (o7 (posOf w n b.qs).aX n b.qs))] (.bD [.ref 0,.ref 1]):=by
 have c1:=mZ b w n hb;have hbl:=hb.2;obtain ⟨p,hp⟩:=aO (posOf w n b.qs);rw [<- hp] at c1 |-;simp only [aG.cells,aA.cells] at c1 |-;clear hp;refine aU 68 2 [.tmp 4,.tmp 5] mixed Tryz.func289 ?_;simp only [go_sem,seval];(with_reducible and_intros)<;>first|exact .dq|omega|skip
 refine aa.pure c1 ?_;simp only [go_sem,seval,aI];(with_reducible and_intros)<;>first|exact .dq|omega|skip
 clear c1;refine aB.walk (S:=Unit) b.qs.length [2,3,6] [48,64] (fun i _=>[(9,.int .i64 i),(7,.ref 912),(8,.ref 1056)]) (fun i _=>[(912,.own 1 (ints (yI p.aX n (b.qs.take i)))),(1056,.own 1 (ints (o7 p.aX n (b.qs.take i))))]) (fun _ _=>True) () trivial ?_ ?_ ?_
 ·simp only [go_sem,seval]<;>simp [yI,o7,pick,ints]
 ·intro i _ hi hdi hwi _;have hm:=aD (c:=aA.cells) b.qs hi;have hs1:ints (yI p.aX n (b.qs.take (i+1)))=ints (yI p.aX n (b.qs.take i))++_:=fJ (K9 p.aX n) aA.who hi;have hs2:ints (o7 p.aX n (b.qs.take (i+1)))=ints (o7 p.aX n (b.qs.take i))++_:=fJ (K9 p.aX n) (fun p=>max p.aX (-p.aX)) hi;have hl1:(yI p.aX n (b.qs.take i)).length<=(b.qs.take i).length:=bY _ _ _;have hl2:(o7 p.aX n (b.qs.take i)).length<=(b.qs.take i).length:=bY _ _ _;have hlt:(b.qs.take i).length=i:=by simp;omega
  have hli:(i:Int) < (b.qs.length:Int):=by omega
  have hxr:=hr _ (List.getElem_mem hi);obtain ⟨L,hL⟩:=aO (yI p.aX n (b.qs.take i));obtain ⟨M,hM⟩:=aO (o7 p.aX n (b.qs.take i));obtain ⟨x,hx⟩:=aO (b.qs[i]);rw [<- hL] at hs1 hl1;rw [<- hM] at hs2 hl2;rw [<- hx] at hs1 hs2 hm hxr;rw [<- hL,<- hM];have hw0:IntKind.wrap .i64 (0-x.aX) = -x.aX:=by rw [bz (by omega) (by omega)];omega
  simp only [K9] at hs1 hs2;simp only [aA.cells] at hm;cases q1:x.inst==n
  ·simp only [q1,Bool.false_and,ir,if_false,List.append_nil] at hs1 hs2;simp only [go_sem,seval,aI,hdi,hm,q1,hwi];(with_reducible and_intros)<;>first|exact .dq|omega|skip
   refine ah.step () hi trivial ?_;simp only [go_sem,seval,hs1,hs2]
  cases q2:decide (0 < p.aX)<;>cases q3:decide (x.aX < 0)<;>cases q4:decide (p.aX < 0)<;>cases q5:decide (0 < x.aX)<;>(
   simp only [q1,q2,q3,q4,q5,Bool.true_and,Bool.false_and,Bool.and_self,Bool.and_false,Bool.or_self,Bool.or_false,Bool.false_or,Bool.or_true,Bool.true_or,ir,if_false,if_true,List.append_nil] at hs1 hs2;simp only [go_sem,seval,aI,hdi,hm,q1,q2,q3,q4,q5,hw0,hwi,az];(with_reducible and_intros)<;>first|exact .dq|omega|skip
   refine ah.step () hi trivial ?_
   simp only [go_sem,seval,hs1,hs2])
 ·intro _ hdx _;simp only [go_sem,seval,aI,hdx,List.take_length]
theorem BR (b:aG) (w n:Int) (hb:b.small) (hr:∀ p∈b.qs,-1099511627776<=p.aX/\p.aX<=1099511627776):Abs.Spec Tryz.prog 289 [] [.agg b.cells,.agg [.int .i64 w,.int .i64 n]] [] (.bD [.sl 1 (ints (yI (posOf w n b.qs).aX n b.qs)),.sl 1 (ints (o7 (posOf w n b.qs).aX n b.qs))]):=by
 refine Spec.frozen (EF b w n hb hr) [0,1] rfl ?_;intro r;rcases r with _ | _ | r<;>rfl
theorem GN (q:Int) (l:List bp) (hl:l.length < 2 ^ 28):Abs.Spec Tryz.prog 275 [] [.int .i64 q,.sl 5 (l.map bp.cells)] [] (.bD [.sl 3 ((jN q l).1.map dO.cells),.int .i64 (jN q l).2,.int .i64 (qy q l)]):=by
 refine Spec.frozen (Iu q l hl) [0] rfl ?_;intro r;rcases r with _ | r<;>rfl
def w7 (f:dO):Bool:=within f.aX 0 1099511627776&&within f.aR 0 1073741824
def FB (long:Bool) (n:Int):Int:=if long then n else -n
def uk (w n:Int) (long:Bool) (f:dO):List aA:=[⟨f.src,n,FB long f.aX,FB long (f.aX*f.aR)⟩,⟨w,n,-FB long f.aX,-FB long (f.aX*f.aR)⟩]
def jK (l:List dO):Int:=if l.all w7 then (if l.all fun f=>bS (f.aX*f.aR) then 0 else 1) else 3
def kg (w n:Int) (long:Bool) (l:List dO):List aA:=if jK l=0 then l.flatMap (uk w n long) else []
theorem Er (w n:Int) (long:Bool) (l:List dO) (hl:l.length < 2 ^ 28):Abs.Spec Tryz.prog 276 [] [.agg [.int .i64 w,.int .i64 n],.bool long,.sl 3 (l.map dO.cells)] [.own 4 ((kg w n long l).map aA.cells)] (.bD [.ref 0,.int .i64 (jK l)]):=by
 simp only [kg];refine aU 86 3 [.tmp 6,.tmp 7] mixed Tryz.func276 ?_;simp only [go_sem,seval,aI];refine aB.walk (S:=Unit) l.length [1,2,3] [64] (fun i _=>[(8,.int .i64 i)]) (fun _ _=>[]) (fun i _=>(l.drop i).all w7=l.all w7) () rfl ?_ ?_ ?_
 ·simp only [go_sem,seval]<;>simp
 ·intro i _ hi hdi hwi hI;have hm:=aD (c:=dO.cells) l hi;have hli:(i:Int) < (l.length:Int):=by omega
  obtain ⟨x,hx⟩:=aO (l[i]);have k1:=fF x.aX 0 1099511627776;have k2:=fF x.aR 0 1073741824;rw [dJ hi,<- hx] at hI;rw [<- hx] at hm;simp only [List.all_cons,w7] at hI;simp only [dO.cells] at hm;simp only [go_sem,seval,aI,hdi,hm];(with_reducible and_intros)<;>first|exact .dq|omega|skip
  refine aa.pure k1 ?_;cases q1:within x.aX 0 1099511627776
  ·rw [q1,Bool.false_and,Bool.false_and] at hI;have hI':jK l=3:=by simp only [jK];rw [show l.all w7=false from hI.symm];rfl
   simp only [go_sem,seval,q1,hI']<;>simp
  simp only [go_sem,seval,q1,aI,hm];(with_reducible and_intros)<;>first|exact .dq|omega|skip
  refine aa.pure k2 ?_;cases q2:within x.aR 0 1073741824
  ·rw [q1,q2,Bool.and_false,Bool.false_and] at hI;have hI':jK l=3:=by simp only [jK];rw [show l.all w7=false from hI.symm];rfl
   simp only [go_sem,seval,q2,hI']<;>simp
  rw [q1,q2,Bool.and_self,Bool.true_and] at hI;simp only [go_sem,seval,q2,hwi];refine ah.step () hi hI ?_;simp only [go_sem,seval]
 intro _ hdx hI;rw [List.drop_length] at hI;have hI:l.all w7=true:=hI.symm;have hall:∀ f∈l,w7 f=true:=List.all_eq_true.1 hI;have e:jK l=if l.all fun f=>bS (f.aX*f.aR) then 0 else 1:=by simp [jK,hI]
 rw [e];clear e hI;simp only [go_sem,seval,aI,hdx];clear hdx;refine aB.walk (S:=Unit) l.length [1,2,3] [64] (fun i _=>[(10,.int .i64 i),(9,.ref 1360)]) (fun i _=>[(1360,.own 4 (((l.take i).flatMap (uk w n long)).map aA.cells))]) (fun i _=>((l.drop i).all fun f=>bS (f.aX*f.aR))=l.all fun f=>bS (f.aX*f.aR)) () rfl ?_ ?_ ?_
 ·simp only [go_sem,seval]<;>simp
 ·intro i _ hi hdi hwi hI;have hm:=aD (c:=dO.cells) l hi;have hli:(i:Int) < (l.length:Int):=by omega
  have hs:=fA (uk w n long) hi;have hnl:=dZ (f:=uk w n long) (m:=2) (fun f=>by simp [uk]) (l.take i);have hlt:(l.take i).length=i:=by simp;omega
  have hxo:=hall _ (List.getElem_mem hi);obtain ⟨L,hL⟩:=aO ((l.take i).flatMap (uk w n long));obtain ⟨x,hx⟩:=aO (l[i]);rw [<- hL] at hs hnl |-;rw [dJ hi,<- hx,List.all_cons] at hI;rw [<- hx] at hs hm hxo;simp only [w7,within,cg,decide_eq_true_eq] at hxo;have c1:=zk x.aX x.aR ⟨by omega,by omega⟩ ⟨by omega,by omega⟩;simp only [uk] at hs;obtain ⟨C,hC⟩:=aO (x.aX*x.aR);rw [<- hC] at c1 hI hs;simp only [dO.cells] at hm;simp only [go_sem,seval,aI,hdi,hm];(with_reducible and_intros)<;>first|exact .dq|omega|skip
  refine aa.pure c1 ?_;cases q1:bS C
  ·rw [q1,Bool.false_and] at hI;rw [<- hI];simp only [go_sem,seval,q1]
   all_goals simp
  have hCr:=cR.1 q1;rw [q1,Bool.true_and] at hI;have w1:IntKind.wrap .i64 (0-x.aX) = -x.aX:=by rw [bz (by omega) (by omega)];omega
  have w2:IntKind.wrap .i64 (0-C) = -C:=by rw [bz (by omega) (by omega)];omega
  have w3:IntKind.wrap .i64 (0 - -x.aX) = - -x.aX:=by rw [bz (by omega) (by omega)];omega
  have w4:IntKind.wrap .i64 (0 - -C) = - -C:=by rw [bz (by omega) (by omega)];omega
  cases long
  ·simp only [FB,ir,if_false] at hs;simp only [go_sem,seval,q1,aI,hm,w1,w2,w3,w4,hwi,if_true];(with_reducible and_intros)<;>first|exact .dq|omega|skip
   refine ah.step () hi hI ?_;simp only [go_sem,seval,hs]<;>simp
  ·simp only [FB,if_true] at hs;simp only [go_sem,seval,q1,aI,hm,w1,w2,w3,w4,hwi,if_true];(with_reducible and_intros)<;>first|exact .dq|omega|skip
   refine ah.step () hi hI ?_;simp only [go_sem,seval,hs]<;>simp
 ·intro _ hdx hI;rw [List.drop_length] at hI;rw [<- hI];simp only [go_sem,seval,aI,hdx,List.take_length];(with_reducible and_intros)<;>first|exact .dq|omega|skip
  all_goals simp
theorem sx (w n:Int) (long:Bool) (l:List dO) (hl:l.length < 2 ^ 28):Abs.Spec Tryz.prog 276 [] [.agg [.int .i64 w,.int .i64 n],.bool long,.sl 3 (l.map dO.cells)] [] (.bD [.sl 4 ((kg w n long l).map aA.cells),.int .i64 (jK l)]):=by
 refine Spec.frozen (Er w n long l hl) [0] rfl ?_;intro r;rcases r with _ | r<;>rfl
theorem C3 (t:Int) (l:List Int) (hl:l.length < 2 ^ 30):Abs.Spec Tryz.prog 255 [] [.int .i64 t,.sl 1 (ints l)] [] (.bD [.sl 1 (ints (if rU t l=0 then yD t l else [])),.int .i64 (if rU t l=0 then G1 t l else 0),.int .i64 (rU t l)]):=by
 refine Spec.frozen (Ek t l hl) [0] rfl ?_;intro r;rcases r with _ | r<;>rfl
def mW (c gh:Int) (caps:List Int):Int:=if (within c 0 2&&caps.length==5)&&(within gh 0 4611686018427387904&&rU gh caps==0) then 0 else 3
def LF (c gh rest:Int) (g:List Int):ck:=⟨c,gh,g.getD 0 0,g.getD 1 0,g.getD 2 0,g.getD 3 0,g.getD 4 0,rest⟩
def tF (c gh:Int) (caps:List Int):ck:=if mW c gh caps=0 then LF c gh (G1 gh caps) (yD gh caps) else ⟨0,0,0,0,0,0,0,0⟩
theorem IE:∀ (l:List Int) (t:Int),(yD t l).length=l.length
 | [],_=>rfl
 | c :: r,t=>by simp only [yD,List.length_cons,IE r]
def Ro (g:List Int) (i:Nat):List D:=[.int .i64 (if 0 < i then g.getD 0 0 else 0),.int .i64 (if 1 < i then g.getD 1 0 else 0),.int .i64 (if 2 < i then g.getD 2 0 else 0),.int .i64 (if 3 < i then g.getD 3 0 else 0),.int .i64 (if 4 < i then g.getD 4 0 else 0)]
theorem GO (c gh:Int) (caps:List Int) (hl:caps.length < 2 ^ 30):Abs.Spec Tryz.prog 190 [] [.int .i64 c,.int .i64 gh,.sl 1 (ints caps)] [] (.bD [.agg (tF c gh caps).cells,.int .i64 (mW c gh caps)]):=by
 have c1:=fH c;have c2:=fF gh 0 4611686018427387904;have c3:=C3 gh caps hl;refine aU 53 3 [.cell 6 203,.tmp 7] mixed Tryz.func190 ?_;simp only [go_sem,seval];(with_reducible and_intros)<;>first|exact .dq|omega|skip
 refine aa.pure c1 ?_;cases b1:within c 0 2
 ·have e:mW c gh caps=3:=by simp [mW,b1]
  simp only [go_sem,seval,tF,e,ck.cells]<;>simp
 by_cases b2:caps.length=5
 case neg =>
  have d:(((caps.length:Nat):Int)==5)=false:=by simp;omega
  have e:mW c gh caps=3:=by simp [mW,b2]
  simp only [go_sem,seval,az,bne,d,tF,e,ck.cells]<;>simp
 have d2:(((caps.length:Nat):Int)==5)=true:=by simp;omega
 simp only [go_sem,seval,az,bne,d2];(with_reducible and_intros)<;>first|exact .dq|omega|skip
 refine aa.pure c2 ?_;cases b3:within gh 0 4611686018427387904
 ·have e:mW c gh caps=3:=by simp [mW,b3]
  simp only [go_sem,seval,tF,e,ck.cells]<;>simp
 simp only [go_sem,seval];(with_reducible and_intros)<;>first|exact .dq|omega|skip
 refine aa.pure c3 ?_
 by_cases b4:rU gh caps=0
 case neg =>
  have d:(rU gh caps==0)=false:=by simpa using b4
  have e:mW c gh caps=3:=by simp [mW,d]
  rw [if_neg b4,if_neg b4];simp only [go_sem,seval,bne,d,tF,e,ck.cells]<;>simp
 have e:mW c gh caps=0:=by simp [mW,b1,b2,b3,b4]
 have hgl:(yD gh caps).length=5:=by rw [IE,b2]
 simp only [tF,e,if_true];rw [b4,if_pos rfl,if_pos rfl];obtain ⟨g,hg⟩:=aO (yD gh caps);obtain ⟨T,hT⟩:=aO (G1 gh caps);rw [<- hg] at hgl |-;rw [<- hT];clear hg hT c1 c2 c3 e;simp only [go_sem,seval];(with_reducible and_intros)<;>first|exact .dq|omega|skip
 refine aB.walk (S:=Unit) 5 [6,8,11] [112] (fun i _=>[(12,.int .i64 i)]) (fun i _=>[(192,.box ([.int .i64 c,.int .i64 gh]++Ro g i++[.int .i64 T]))]) (fun _ _=>True) () trivial ?_ ?_ ?_
 ·simp only [go_sem,seval,Ro]<;>simp
 ·intro i _ hi hdi hwi _;have hdi:decide ((i:Int) < 5)=true:=hdi;have hi':i < g.length:=by omega
  have hm:=ints_at g hi';have hg:g[i]=g.getD i 0:=by simp [hi']
  rw [hg] at hm;have hli:(i:Int) < (g.length:Int):=by omega
  obtain rfl | rfl | rfl | rfl | rfl:i=0\/i=1\/i=2\/i=3\/i=4:=by omega
  all_goals
   simp only [Ro,List.cons_append,List.nil_append];simp only [go_sem,seval,hdi,az,hm,hwi];(with_reducible and_intros)<;>first|exact .dq|omega|skip
   refine ah.step () hi trivial ?_;simp only [go_sem,seval,Ro]
   all_goals rfl
 ·intro _ hdx _;simp only [go_sem,seval,Ro,LF,ck.cells]
  all_goals simp
theorem SS (X Y:Int):(X / 18446744073709551616 < Y / 18446744073709551616\/(X / 18446744073709551616=Y / 18446744073709551616/\X%18446744073709551616 < Y%18446744073709551616)) ↔ X < Y:=by omega
theorem rY (X Y:Int):Abs.Spec Tryz.prog 296 [] [.agg (wd X),.agg (wd Y)] [] (.bool (decide (X < Y))):=by
 have h:=SS X Y;simp only [wd];refine aU 24 2 [.tmp 4] mixed Tryz.func296 ?_;obtain ⟨a,ha⟩:=aO (X / 18446744073709551616);obtain ⟨b,hb⟩:=aO (Y / 18446744073709551616);obtain ⟨c,hc⟩:=aO (X%18446744073709551616);obtain ⟨d,hd⟩:=aO (Y%18446744073709551616);rw [<- ha,<- hb,<- hc,<- hd] at h;rw [<- ha,<- hb,<- hc,<- hd];clear ha hb hc hd
 have he:decide (X < Y)=(decide (a < b)||(a==b&&decide (c < d))):=by
  rw [Bool.eq_iff_iff];simp only [decide_eq_true_eq,Bool.or_eq_true,cg,beq_iff_eq];exact h.symm
 rw [he];clear he h;cases q1:decide (a < b)
 ·cases q2:a==b
  ·simp only [go_sem,seval,q1,q2,Bool.false_or,Bool.false_and]
   all_goals (with_reducible and_intros)<;>first|exact .dq|omega|skip
  ·simp only [go_sem,seval,q1,q2,Bool.false_or,Bool.true_and]
   all_goals (with_reducible and_intros)<;>first|exact .dq|omega|skip
 ·simp only [go_sem,seval,q1,Bool.true_or]
  all_goals (with_reducible and_intros)<;>first|exact .dq|omega|skip
theorem SA (X Y:Int) (h:-42535295865117307932921825928971026432<=X/\X<=42535295865117307932921825928971026432) (h':-42535295865117307932921825928971026432<=Y/\Y<=42535295865117307932921825928971026432) :
  IntKind.wrap .i64 ((X / 18446744073709551616%18446744073709551616+Y / 18446744073709551616%18446744073709551616+(X%18446744073709551616+Y%18446744073709551616+0) / 18446744073709551616)%18446744073709551616)=(X+Y) / 18446744073709551616:=by
 have h1:=Nc X Y;rw [h1];obtain ⟨z,hz⟩:=aO ((X+Y) / 18446744073709551616);have hzr:-9223372036854775808<=z/\z < 9223372036854775808:=by omega
 rw [<- hz,IntKind.wrap_i64];omega
theorem Q9 (X Y:Int):((decide (X / 18446744073709551616 < 0) != decide (Y / 18446744073709551616 < 0))||(decide ((X+Y) / 18446744073709551616 < 0)==decide (X / 18446744073709551616 < 0)))=true:=by
 by_cases h1:X / 18446744073709551616 < 0<;>by_cases h2:Y / 18446744073709551616 < 0
 ·have h3:(X+Y) / 18446744073709551616 < 0:=by omega
  simp [h1,h2,h3]
 ·simp [h1,h2]
 ·simp [h1,h2]
 ·have h3:¬ (X+Y) / 18446744073709551616 < 0:=by omega
  simp [h1,h2,h3]
theorem DO (X Y:Int) (h:-42535295865117307932921825928971026432<=X/\X<=42535295865117307932921825928971026432) (h':-42535295865117307932921825928971026432<=Y/\Y<=42535295865117307932921825928971026432):Abs.Spec Tryz.prog 299 [] [.agg (wd X),.agg (wd Y)] [] (.bD [.agg (wd (X+Y)),.bool true]):=by
 have hux:IntKind.wrap .u64 (X / 18446744073709551616)=(X / 18446744073709551616)%18446744073709551616:=IntKind.wrap_u64 _;have huy:IntKind.wrap .u64 (Y / 18446744073709551616)=(Y / 18446744073709551616)%18446744073709551616:=IntKind.wrap_u64 _;have e1:=Mm X Y;have e2:=SA X Y h h';have e3:=Q9 X Y;obtain ⟨p,hp⟩:=aO (decide (X / 18446744073709551616 < 0));obtain ⟨q,hq⟩:=aO (decide (Y / 18446744073709551616 < 0));obtain ⟨s,hs⟩:=aO (decide ((X+Y) / 18446744073709551616 < 0));rw [<- hp,<- hq,<- hs] at e3;simp only [wd];refine aU 50 2 [.cell 4 214,.tmp 5] mixed Tryz.func299 ?_;simp only [go_sem,seval];refine aa.sem rfl ?_
 with_reducible refine gU.yX (k:=196) (fn:=Tryz.f196) (i:=X%18446744073709551616) (j:=Y%18446744073709551616) (m:=0) ?_ Tryz.func196 ?_ ?_ mg mD ?_ ?_ ?_ ?_ ?_ ?_ ?_ ?_ ?_
 iterate 11 (first | rfl | omega)
 simp only [go_sem,seval,hux,huy];refine aa.sem rfl ?_
 with_reducible refine gU.yX (k:=196) (fn:=Tryz.f196) (i:=X / 18446744073709551616%18446744073709551616) (j:=Y / 18446744073709551616%18446744073709551616) (m:=(X%18446744073709551616+Y%18446744073709551616+0) / 18446744073709551616) ?_ Tryz.func196 ?_ ?_ mg mD ?_ ?_ ?_ ?_ ?_ ?_ ?_ ?_ ?_
 iterate 11 (first | rfl | omega)
 simp only [go_sem,seval,e1,e2,<- hp,<- hq,<- hs];cases p<;>cases q<;>cases s<;>(try (exact absurd e3 (by decide)))
 all_goals simp only [go_sem,seval,bne,beq_self_eq_true,Bool.not_true]
 all_goals (with_reducible and_intros)<;>first|exact .dq|omega|skip
 all_goals (rw [<- hs,<- hp];rfl)
theorem acE (h:Int) (h0:0<=h) (h1:h < 4611686018427387904):Ac .i64 h 1=2*h:=by
 unfold Ac;have h2:min (Int.toNat 1) (IntKind.bits .i64)=1:=by simp [IntKind.bits]
 rw [h2,IntKind.wrap_i64];omega
theorem agl (h c:Int) (h0:0<=h) (h1:h < 4611686018427387904) (hc:0<=c/\c<=1):YG .i64 (2*h) c=2*h+c:=by
 obtain ⟨n,rfl⟩:∃ n:Nat,h=n:=⟨h.toNat,by omega⟩
 obtain ⟨m,rfl⟩:∃ m:Nat,c=m:=⟨c.toNat,by omega⟩
 unfold YG;rw [BitVec.toNat_or,BitVec.toNat_ofInt,BitVec.toNat_ofInt];simp only [IntKind.bits];have e1:((2*(n:Int))%((2 ^ 64:Nat):Int)).toNat=2 ^ 1*n:=by omega
 have e2:((m:Int)%((2 ^ 64:Nat):Int)).toNat=m:=by omega
 rw [e1,e2,<- Nat.two_pow_add_eq_or_of_lt (by omega:m < 2 ^ 1),IntKind.wrap_i64];omega
theorem aa2 (l:Int) (h0:0<=l):Ac .u64 l 1=l*2%18446744073709551616:=by
 unfold Ac;have h2:min (Int.toNat 1) (IntKind.bits .u64)=1:=by simp [IntKind.bits]
 rw [h2,IntKind.wrap_u64];rfl
theorem Xj (l:Int) (h0:0<=l):Dy .u64 l 63=l / 9223372036854775808:=by
 have:=Oy l.toNat 63 (by omega);rw [Int.toNat_of_nonneg h0] at this;have e:((63:Nat):Int)=63:=rfl;rw [e] at this;rw [this];have e2:(2:Nat) ^ 63=9223372036854775808:=by decide
 rw [e2];omega
def TE (s:Int):Bool:=decide (4611686018427387904<=s / 18446744073709551616)
def Gv:Nat->Int->Int
 | 0,s=>s
 | k+1,s=>if TE s then s else Gv k (2*s)
def AE:Nat->Int->Bool
 | 0,_=>true
 | k+1,s=>if TE s then false else AE k (2*s)
theorem EP:∀ {k:Nat} {s:Int},AE k s=true->Gv k s=s*2 ^ k
 | 0,s,_=>by simp [Gv]
 | k+1,s,h=>by
  simp only [AE] at h;split at h
  ·cases h
  ·rename_i hb;simp only [Gv,if_neg hb];rw [EP h,Int.mul_comm 2 s,Int.mul_assoc,Int.pow_succ,Int.mul_comm 2]
theorem BV:∀ {k:Nat} {s:Int},0<=s->AE k s=false->85070591730234615865843651857942052864<=s*2 ^ k
 | 0,s,_,h=>by cases h
 | k+1,s,h0,h=>by
  simp only [AE] at h;split at h
  ·rename_i hb;simp only [TE,decide_eq_true_eq] at hb;have h3:1<=(2:Nat) ^ (k+1):=Nat.one_le_two_pow
   have h1:(1:Int)<=2 ^ (k+1):=by
    have e:((2 ^ (k+1):Nat):Int)=(2:Int) ^ (k+1):=by push_cast;rfl
    rw [<- e];omega
   have h2:s*1<=s*2 ^ (k+1):=Int.mul_le_mul_of_nonneg_left h1 h0;omega
  ·have:=BV (k:=k) (s:=2*s) (by omega) h;rw [Int.pow_succ,<- Int.mul_assoc,Int.mul_comm (s*2 ^ k) 2,<- Int.mul_assoc];exact this
theorem Ql (s:Int) (h0:0<=s) (h1:s / 18446744073709551616 < 4611686018427387904):2*(s / 18446744073709551616)+s%18446744073709551616 / 9223372036854775808=2*s / 18446744073709551616:=by omega
theorem RH (s:Int):s%18446744073709551616*2%18446744073709551616=2*s%18446744073709551616:=by omega
theorem Em (X:Int) (k:Nat) (h0:0<=X) (hk:k < 100) (hX:X < 170141183460469231731687303715884105728):Abs.Spec Tryz.prog 298 [] [.agg (wd X),.int .i64 k] [] (.bD [.agg (wd (Gv k X)),.bool (AE k X)]):=by
 simp only [wd];refine aU 29 2 [.cell 4 214,.tmp 5] mixed Tryz.func298 ?_;simp only [go_sem,seval];refine aB.walk (S:=Int) k [1,2,4] [80] (fun i _=>[(6,.int .i64 i)]) (fun _ s=>[(48,.box [.int .i64 (s / 18446744073709551616),.int .u64 (s%18446744073709551616)])]) (fun i s=>(Gv (k-i) s=Gv k X/\AE (k-i) s=AE k X)/\0<=s/\s < 170141183460469231731687303715884105728) X ⟨⟨rfl,rfl⟩,h0,hX⟩ ?_ ?_ ?_
 ·simp only [go_sem,seval]<;>simp
 ·rintro i s hi hdi hwi ⟨⟨h1,h2⟩,h3,h4⟩
  obtain ⟨m,hm⟩:∃ m,k-i=m+1:=⟨k-i-1,by omega⟩
  have hm2:k-(i+1)=m:=by omega
  rw [hm] at h1 h2;simp only [Gv,AE] at h1 h2;cases hb:TE s
  case true =>
   have d:decide (4611686018427387904<=s / 18446744073709551616)=true:=hb;rw [hb,if_pos rfl] at h1 h2;rw [<- h1,<- h2];simp only [go_sem,seval,hdi,d]
  have d:decide (4611686018427387904<=s / 18446744073709551616)=false:=hb;have hlt:s / 18446744073709551616 < 4611686018427387904:=by simpa using d
  rw [hb,if_neg (by simp)] at h1 h2;have e1:=acE (s / 18446744073709551616) (by omega) hlt;have e2:=Xj (s%18446744073709551616) (by omega);have hcr:0<=s%18446744073709551616 / 9223372036854775808/\s%18446744073709551616 / 9223372036854775808<=1:=by omega
  have e3:IntKind.wrap .i64 (s%18446744073709551616 / 9223372036854775808)=s%18446744073709551616 / 9223372036854775808:=bz (by omega) (by omega);have e4:=agl (s / 18446744073709551616) (s%18446744073709551616 / 9223372036854775808) (by omega) hlt hcr;have e5:=aa2 (s%18446744073709551616) (by omega);rw [RH] at e5;rw [Ql s h3 hlt] at e4;simp only [go_sem,seval,hdi,d,e1,e2,e3,e4,e5,hwi];(with_reducible and_intros)<;>first|exact .dq|omega|skip
  refine ah.step (2*s) hi ⟨⟨by rw [hm2];exact h1,by rw [hm2];exact h2⟩,by omega,by omega⟩ ?_;simp only [go_sem,seval]
 ·rintro s hdx ⟨⟨h1,h2⟩,h3,h4⟩
  rw [Nat.sub_self] at h1 h2;simp only [Gv,AE] at h1 h2;rw [<- h1,<- h2];simp only [go_sem,seval,hdx]
theorem Uv:∀ {k:Nat},k<=62->(2:Int) ^ k<=4611686018427387904/\1<=(2:Int) ^ k:=by
 intro k hk;have h1:(2:Nat) ^ k<=2 ^ 62:=Nat.pow_le_pow_right (by decide) hk;have h2:(2:Nat) ^ 62=4611686018427387904:=by decide
 have h3:1<=(2:Nat) ^ k:=Nat.one_le_two_pow;have e:((2 ^ k:Nat):Int)=(2:Int) ^ k:=by push_cast;rfl
 rw [<- e];omega
theorem Ss {k:Nat} (hk:k<=62):Ac .i64 1 (k:Int)=(2:Int) ^ k:=by
 have h:=Uv hk;unfold Ac;have h1:min (Int.toNat (k:Int)) (IntKind.bits .i64)=k:=by simp [IntKind.bits];omega
 rw [h1,Int.one_mul];exact bz (by omega) (by omega)
theorem AT (X Y:Int) (h0:0<=X) (hX:X < 42535295865117307932921825928971026432) (hY:1<=Y) (hY2:Y < 42535295865117307932921825928971026432) (hq:X < Y*9223372036854775808):Abs.Spec Tryz.prog 295 [] [.agg (wd X),.agg (wd Y)] [] (.bD [.int .i64 (X / Y),.agg (wd (X%Y))]):=by
 have cS:=fun k hk=>Em Y k (by omega) hk (by omega)
 have cL:=fun a b=>rY a b
 simp only [wd] at cS cL;simp only [wd];refine aU 42 2 [.tmp 4,.cell 5 214] mixed Tryz.func295 ?_;simp only [go_sem,seval]
 refine aB.walk (S:=Int × Int) 63 [3,5,7] [64,96] (fun i s=>[(8,.int .i64 ((62:Int)-i)),(6,.int .i64 s.1)]) (fun _ s=>[(128,.box [.int .i64 (s.2 / 18446744073709551616),.int .u64 (s.2%18446744073709551616)])])
  (fun i s=>(0<=s.2/\s.2 < Y*2 ^ (63-i))/\s.1*Y+s.2=X/\0<=s.1) (0,X) ⟨⟨h0,hq⟩,by simp,by simp⟩ ?_ ?_ ?_
 ·simp only [go_sem,seval]<;>simp
 ·rintro i ⟨q,r⟩ hi _ _ ⟨⟨h1,h2⟩,h3,h4⟩
  dsimp only at h1 h2 h3 h4;obtain ⟨k,hk⟩:∃ k,62-i=k:=⟨_,rfl⟩
  have hki:(62:Int)-(i:Int)=(k:Int):=by omega
  have hk1:63-i=k+1:=by omega
  have hk2:63-(i+1)=k:=by omega
  have hd:decide (0<=(k:Int))=true:=decide_eq_true (by omega);have hw:IntKind.wrap .i64 ((k:Int)-1)=(62:Int)-((i+1:Nat):Int):=by rw [bz (by omega) (by omega)];omega
  have cS:=cS k (by omega);have hone:=Ss (k:=k) (by omega);have hpw:=Uv (k:=k) (by omega);obtain ⟨Q,hQ⟩:=aO ((2:Int) ^ k);rw [hk1,Int.pow_succ,<- hQ] at h2;rw [<- hQ] at hone hpw;obtain ⟨Z,hZ⟩:=aO (Y*Q);have h2:r < 2*Z:=by rw [hZ];rw [<- Int.mul_assoc] at h2;omega
  have hrX:r<=X:=by
   have:=Int.mul_nonneg h4 (show 0<=Y by omega);omega
  rw [hki];cases hE:AE k Y
  ·have hbig:=BV (by omega) hE;rw [<- hQ,<- hZ] at hbig;rw [hE] at cS;simp only [go_sem,seval,hd];(with_reducible and_intros)<;>first|exact .dq|omega|skip
   refine aa.pure cS ?_;simp only [go_sem,seval,hw];(with_reducible and_intros)<;>first|exact .dq|omega|skip
   refine ah.step (q,r) hi ⟨⟨h1,by rw [hk2,<- hQ,<- hZ];dsimp only;omega⟩,h3,h4⟩ ?_;simp only [go_sem,seval]
  have hV:=EP hE;rw [<- hQ,<- hZ] at hV;rw [hE,hV] at cS;have cL:=cL r Z;simp only [go_sem,seval,hd];(with_reducible and_intros)<;>first|exact .dq|omega|skip
  refine aa.pure cS ?_;simp only [go_sem,seval];(with_reducible and_intros)<;>first|exact .dq|omega|skip
  refine aa.pure cL ?_
  by_cases hl:r < Z
  ·have d:decide (r < Z)=true:=decide_eq_true hl;simp only [go_sem,seval,d,hw];(with_reducible and_intros)<;>first|exact .dq|omega|skip
   refine ah.step (q,r) hi ⟨⟨h1,by rw [hk2,<- hQ,<- hZ];exact hl⟩,h3,h4⟩ ?_;simp only [go_sem,seval]
  have d:decide (r < Z)=false:=decide_eq_false hl;have hZ0:0<=Z:=by rw [hZ];exact Int.mul_nonneg (by omega) (by omega)
  have cN:=abd Z (by omega);have cA:=DO r (-Z) (by omega) (by omega);have e1:r + -Z=r-Z:=by omega
  have e2:(q+Q)*Y+(r-Z)=X:=by rw [Int.add_mul,Int.mul_comm Q Y,<- hZ];omega
  have e3:q+Q < 9223372036854775808:=by
   rcases Int.lt_or_le (q+Q) 9223372036854775808 with h | h
   ·exact h
   ·have:=Int.mul_le_mul_of_nonneg_right h (show 0<=Y by omega);rw [Int.mul_comm 9223372036854775808 Y] at this;omega
  have e4:IntKind.wrap .i64 (q+Q)=q+Q:=bz (by omega) e3;rw [e1] at cA;simp only [wd] at cN cA;simp only [go_sem,seval,d];(with_reducible and_intros)<;>first|exact .dq|omega|skip
  refine aa.pure cN ?_;simp only [go_sem,seval];(with_reducible and_intros)<;>first|exact .dq|omega|skip
  refine aa.pure cA ?_;simp only [go_sem,seval,hone,e4,hw];(with_reducible and_intros)<;>first|exact .dq|omega|skip
  refine ah.step (q+Q,r-Z) hi ⟨⟨by dsimp only;omega,by rw [hk2,<- hQ,<- hZ];dsimp only;omega⟩,e2,by dsimp only;omega⟩ ?_;simp only [go_sem,seval]
 ·rintro ⟨q,r⟩ _ ⟨⟨h1,h2⟩,h3,h4⟩
  dsimp only at h1 h2 h3 h4;rw [Nat.sub_self,Int.pow_zero,Int.mul_one] at h2
  have eq:X / Y=q:=by
   rw [<- h3,Int.add_comm,Int.add_mul_ediv_right _ _ (by omega),Int.ediv_eq_zero_of_lt h1 h2];omega
  have er:X%Y=r:=by
   rw [<- h3,Int.add_comm,Int.add_mul_emod_self_right,Int.emod_eq_of_lt h1 h2]
  rw [eq,er];have hx:(62:Int)-((63:Nat):Int) = -1:=by omega
  rw [hx];simp only [go_sem,seval];(with_reducible and_intros)<;>first|exact .dq|omega|skip
def ux (t W:Int) (ws:List Int):List Int:=ws.map fun w=>t*w / W
def M9 (t W:Int) (ws:List Int):List Int:=ws.map fun w=>t*w%W
def gF (rs:List Int) (gs:List Bool):Nat->Int
 | 0=>-1
 | i+1=>if !(gs.getD i true)&&(decide (gF rs gs i < 0)||decide (rs.getD (gF rs gs i).toNat 0 < rs.getD i 0)) then (i:Int) else gF rs gs i
def oE (rs:List Int):Nat->List Bool->List Int->List Int
 | 0,_,ps=>ps
 | n+1,gs,ps=>oE rs n (gs.set (gF rs gs rs.length).toNat true) (ps.set (gF rs gs rs.length).toNat (ps.getD (gF rs gs rs.length).toNat 0+1))
def iJ (t:Int) (ws:List Int):Int:=if (!decide (t < 0)&&bS t)&&right ws then (if vW ws then (if 1024 < ws.length then 5 else if aC ws=0 then (if t=0 then 0 else 2) else 0) else 3) else 3
def fN (t:Int) (ws:List Int):List Int:=
 if iJ t ws=0 then (if aC ws=0 then List.replicate ws.length 0 else oE (M9 t (aC ws) ws) (t-aC (ux t (aC ws) ws)).toNat (List.replicate ws.length false) (ux t (aC ws) ws)) else []
theorem E3 (rs:List Int):∀ (n:Nat) (gs:List Bool) (ps:List Int),(oE rs n gs ps).length=ps.length
 | 0,_,_=>rfl
 | n+1,gs,ps=>by simp only [oE];rw [E3 rs n];simp
theorem qP (t:Int) (ws:List Int):(fN t ws).length<=ws.length:=by
 unfold fN;split
 ·split
  ·simp
  ·rw [E3];simp [ux]
 ·simp
theorem ya (rs:List Int) (gs:List Bool):∀ i,-1<=gF rs gs i/\gF rs gs i < i
 | 0=>by simp [gF]
 | i+1=>by
  have:=ya rs gs i;simp only [gF];split<;>omega
theorem GA (rs:List Int) (gs:List Bool):∀ i,(∃ j < i,gs.getD j true=false)->0<=gF rs gs i
 | 0,h=>by obtain ⟨j,hj,_⟩:=h;omega
 | i+1,h=>by
  simp only [gF];split
  ·omega
  ·rename_i hc;rcases Int.lt_or_le (gF rs gs i) 0 with hb | hb
   ·have hd:decide (gF rs gs i < 0)=true:=decide_eq_true hb;rw [hd,Bool.true_or,Bool.and_true] at hc;obtain ⟨j,hj,he⟩:=h;rcases Nat.lt_or_ge j i with h2 | h2
    ·have:=GA rs gs i ⟨j,h2,he⟩;omega
    ·obtain rfl:j=i:=by omega
     rw [he] at hc;exact absurd rfl hc
   ·exact hb
theorem Dv (rs:List Int) (gs:List Bool):∀ i,0<=gF rs gs i->gs.getD (gF rs gs i).toNat true=false
 | 0,h=>by simp [gF] at h
 | i+1,h=>by
  simp only [gF] at h |-;split
  ·rename_i hc;simp only [cg,Bool.not_eq_true'] at hc;rw [show ((i:Int)).toNat=i by omega];exact hc.1
  ·rename_i hc;rw [if_neg hc] at h;exact Dv rs gs i h
theorem HH:∀ {gs:List Bool},gs.count true < gs.length->∃ j < gs.length,gs.getD j true=false
 | [],h=>by simp at h
 | b :: r,h=>by
  cases b
  ·exact ⟨0,by simp,rfl⟩
  ·simp only [List.count_cons_self,List.length_cons] at h;obtain ⟨j,hj,he⟩:=HH (gs:=r) (by omega);exact ⟨j+1,by simp;omega,by simpa using he⟩
theorem count_set:∀ {gs:List Bool} {j:Nat},gs.getD j true=false->(gs.set j true).count true=gs.count true+1
 | [],j,h=>by simp at h
 | b :: r,0,h=>by
  have h:b=false:=h;subst h;simp
 | b :: r,j+1,h=>by
  have:=count_set (gs:=r) (j:=j) (by simpa using h);simp only [List.set_cons_succ,List.count_cons,this];omega
theorem lJ:∀ {l:List Int},(∀ x∈l,0<=x)->0<=aC l
 | [],_=>by simp [aC]
 | x :: r,h=>by
  have h1:=h x (by simp);have h2:=lJ (l:=r) fun y hy=>h y (by simp [hy])
  simp only [aC];omega
theorem Am:∀ {l:List Int},(∀ x∈l,0<=x)->∀ x∈l,x<=aC l
 | [],_,x,hx=>by cases hx
 | y :: r,h,x,hx=>by
  have h1:=h y (by simp);have h2:=lJ (l:=r) fun z hz=>h z (by simp [hz])
  simp only [aC];rcases List.mem_cons.1 hx with rfl | hx
  ·omega
  ·have:=Am (l:=r) (fun z hz=>h z (by simp [hz])) x hx;omega
theorem Kh:∀ {l:List Int},(∀ x∈l,0<=x)->∀ i,aC (l.take i)<=aC l
 | [],_,i=>by simp
 | y :: r,h,0=>by simp only [List.take_zero];exact lJ h
 | y :: r,h,i+1=>by
  have:=Kh (l:=r) (fun z hz=>h z (by simp [hz])) i;simp only [List.take_succ_cons,aC];omega
theorem Gs {t W:Int} (hW:1<=W):∀ {l:List Int},(∀ x∈l,0<=t*x)->0<=aC (ux t W l)/\W*aC (ux t W l)+aC (M9 t W l)=t*aC l/\0<=aC (M9 t W l)/\aC (M9 t W l)<=(W-1)*l.length
 | [],_=>by simp [ux,M9,aC]
 | x :: r,h=>by
  obtain ⟨h1,h2,h3,h4⟩:=Gs hW (l:=r) fun y hy=>h y (by simp [hy])
  have h0:=h x (by simp);have a1:=Int.mul_ediv_add_emod (t*x) W;have a2:=Int.emod_nonneg (t*x) (show W≠0 by omega);have a3:=Int.emod_lt_of_pos (t*x) (show 0 < W by omega);have a4:0<=t*x / W:=Int.ediv_nonneg h0 (by omega);have e1:ux t W (x :: r)=(t*x / W) :: ux t W r:=rfl;have e2:M9 t W (x :: r)=(t*x%W) :: M9 t W r:=rfl;rw [e1,e2];simp only [aC,List.length_cons];refine ⟨by omega,?_,by omega,?_⟩
  ·rw [Int.mul_add,Int.mul_add];omega
  ·push_cast
   rw [Int.mul_add];omega
theorem vi {t W:Int} {ws:List Int} (ht:0<=t) (hW:aC ws=W) (hW1:1<=W) (hw:∀ x∈ws,0<=x):0<=t-aC (ux t W ws)/\t-aC (ux t W ws) < ws.length:=by
 obtain ⟨h1,h2,h3,h4⟩:=Gs (t:=t) hW1 (l:=ws) fun x hx=>Int.mul_nonneg ht (hw x hx)
 rw [hW,Int.mul_comm t W] at h2;have h5:W*(t-aC (ux t W ws))=aC (M9 t W ws):=by rw [Int.mul_sub];omega
 have hpos:0 < ws.length:=by
  cases ws with
  | nil=>simp [aC] at hW;omega
  | cons x r=>simp
 constructor
 ·rcases Int.lt_or_le (t-aC (ux t W ws)) 0 with h | h
  ·have:=Int.mul_neg_of_pos_of_neg (show 0 < W by omega) h;omega
  ·exact h
 ·rcases Int.lt_or_le (t-aC (ux t W ws)) ws.length with h | h
  ·exact h
  ·have h6:=Int.mul_le_mul_of_nonneg_left h (show 0<=W by omega);rw [Int.sub_mul] at h4;omega
theorem qL {t W x:Int} (ht:0<=t) (hW1:1<=W) (h0:0<=x) (hx:x<=W):0<=t*x / W/\t*x / W<=t:=by
 have h1:=Int.mul_nonneg ht h0;refine ⟨Int.ediv_nonneg h1 (by omega),?_⟩;have h2:t*x<=t*W:=Int.mul_le_mul_of_nonneg_left hx ht;have h3:=Int.ediv_le_ediv (show 0 < W by omega) h2;rw [Int.mul_ediv_cancel _ (show W≠0 by omega)] at h3;exact h3
theorem Ky {t W:Int} {ws:List Int} (ht:0<=t) (hW:aC ws=W) (hW1:1<=W) (hw:∀ x∈ws,0<=x) (i:Nat):0<=aC (ux t W (ws.take i))/\aC (ux t W (ws.take i))<=t:=by
 have hw':∀ x∈ws.take i,0<=x:=fun x hx=>hw x (List.mem_of_mem_take hx)
 obtain ⟨h1,h2,h3,h4⟩:=Gs (t:=t) hW1 (l:=ws.take i) fun x hx=>Int.mul_nonneg ht (hw' x hx)
 have h5:=Kh hw i;refine ⟨h1,?_⟩;rcases Int.lt_or_le t (aC (ux t W (ws.take i))) with h | h
 ·have h6:t*aC (ws.take i)<=t*W:=Int.mul_le_mul_of_nonneg_left (by omega) ht;have h7:=Int.mul_lt_mul_of_pos_left h (show 0 < W by omega);rw [Int.mul_comm W t] at h7;omega
 ·exact h
def yp (f:Int->Int) (ws:List Int) (i:Nat):List Int:=(ws.take i).map f++List.replicate (ws.length-i) 0
theorem Po (f:Int->Int) (ws:List Int):yp f ws 0=List.replicate ws.length 0:=by simp [yp]
theorem IQ (f:Int->Int) (ws:List Int):yp f ws ws.length=ws.map f:=by simp [yp]
theorem KJ (f:Int->Int) (ws:List Int) {i:Nat} (h:i<=ws.length):(yp f ws i).length=ws.length:=by simp [yp];omega
theorem IY (f:Int->Int) {ws:List Int} {i:Nat} (h:i < ws.length):(yp f ws i).set i (f ws[i])=yp f ws (i+1):=by
 have hl:((ws.take i).map f).length=i:=by simp;omega
 have e:ws.length-i=(ws.length-(i+1))+1:=by omega
 simp only [yp];rw [List.set_append_right _ _ (by omega),hl,Nat.sub_self,e,List.replicate_succ,List.set_cons_zero,List.take_succ_eq_append_getElem h,List.map_append,List.append_assoc];rfl
def DR (gs:List Bool):List (List D):=gs.map fun b=>[.bool b]
theorem wP (gs:List Bool):(DR gs).length=gs.length:=by simp [DR]
theorem Nx (gs:List Bool) {i:Nat} (h:i < gs.length):(DR gs).getD i []=[.bool gs[i]]:=by simp [DR,h]
theorem ints_set (l:List Int) (i:Nat) (v:Int):(ints l).set i [.int .i64 v]=ints (l.set i v):=by simp [ints,List.map_set]
theorem Sl (l:List Int) (i:Nat) (v:Int):(qz l).set i [.int .i64 (v / 18446744073709551616),.int .u64 (v%18446744073709551616)]=qz (l.set i v):=by simp [qz,wd,List.map_set]
theorem SR (l:List Bool) (i:Nat) (v:Bool):(DR l).set i [.bool v]=DR (l.set i v):=by simp [DR,List.map_set]
theorem Dm (n:Nat):List.replicate n [D.int .i64 0]=ints (List.replicate n 0):=by simp [ints]
theorem NB (n:Nat):List.replicate n [D.int .i64 0,D.int .u64 0]=qz (List.replicate n 0):=by simp [qz,wd]
theorem Tw (n:Nat):List.replicate n [D.bool false]=DR (List.replicate n false):=by simp [DR]
theorem GH (t:Int) (ws:List Int) (hl:ws.length < 2 ^ 30):Abs.Spec Tryz.prog 290 [] [.int .i64 t,.sl 1 (ints ws)] [.own 1 (ints (fN t ws))] (.bD [.ref 0,.int .i64 (iJ t ws)]):=by
 have c1:=cY t;have c2:=uC ws (by omega);refine aU 149 2 [.tmp 4,.tmp 5] mixed Tryz.func290 ?_
 by_cases q0:t < 0
 ·have d:decide (t < 0)=true:=decide_eq_true q0;have e:iJ t ws=3:=by simp [iJ,q0]
  simp only [go_sem,seval,d,fN,e]<;>simp [ints]
 have d0:decide (t < 0)=false:=decide_eq_false q0;simp only [go_sem,seval,d0];refine aa.pure c1 ?_;cases q1:bS t
 ·have e:iJ t ws=3:=by simp [iJ,q1]
  simp only [go_sem,seval,fN,e]<;>simp [ints]
 simp only [go_sem,seval];refine aa.pure c2 ?_;cases q2:right ws
 ·have e:iJ t ws=3:=by simp [iJ,q2]
  simp only [go_sem,seval,fN,e]<;>simp [ints]
 have e:iJ t ws=if vW ws then (if 1024 < ws.length then 5 else if aC ws=0 then (if t=0 then 0 else 2) else 0) else 3:=by simp only [iJ,d0,q1,q2];rfl
 simp only [fN];rw [e];clear e c1 c2;have hin:=fun x hx=>cR.1 (List.all_eq_true.1 q2 x hx)
 have htin:=cR.1 q1;simp only [go_sem,seval,az];refine aB.walk (S:=Unit) ws.length [0,1] [] (fun i _=>[(7,.int .i64 i),(6,.ref 768)]) (fun i _=>[(768,.own 2 (qz (ws.take i)))]) (fun i _=>vW (ws.drop i)=vW ws) () rfl ?_ ?_ ?_
 ·simp only [go_sem,seval]<;>simp [qz]
 ·intro i _ hi hdi hwi hI;have hm:=ints_at ws hi;have hli:(i:Int) < (ws.length:Int):=by omega
  have hxr:=hin _ (List.getElem_mem hi);have hnext:qz (ws.take (i+1))=qz (ws.take i)++[wd ws[i]]:=by rw [List.take_succ_eq_append_getElem hi];simp only [qz,List.map_append,List.map_cons,List.map_nil]
  have hlen:(qz (ws.take i)).length=i:=by simp [qz];omega
  obtain ⟨x,hx⟩:=aO (ws[i]);rw [dJ hi,<- hx] at hI;rw [<- hx] at hm hxr hnext;have hO:=rq x ⟨by omega,by omega⟩;have hc:vW (x :: ws.drop (i+1))=(!decide (x < 0)&&vW (ws.drop (i+1))):=rfl;rw [hc] at hI;simp only [wd] at hO hnext
  by_cases q:x < 0
  ·have d:decide (x < 0)=true:=decide_eq_true q;rw [d,Bool.not_true,Bool.false_and] at hI;rw [<- hI];simp only [go_sem,seval,az,hdi,hm,d];(with_reducible and_intros)<;>first|exact .dq|omega|skip
   all_goals simp [ints]
  ·have d:decide (x < 0)=false:=decide_eq_false q;rw [d,Bool.not_false,Bool.true_and] at hI;simp only [go_sem,seval,az,hdi,hm,d];(with_reducible and_intros)<;>first|exact .dq|omega|skip
   refine aa.pure hO ?_;simp only [go_sem,seval,hwi,hlen];(with_reducible and_intros)<;>first|exact .dq|omega|skip
   refine ah.step () hi hI ?_;simp only [go_sem,seval,hnext]
 intro _ hdx hI;rw [List.drop_length] at hI;have hI:vW ws=true:=hI.symm
 have hnn:∀ x∈ws,0<=x:=fun x hx=>by
  have:=List.all_eq_true.1 hI x hx;simp only [Bool.not_eq_true',decide_eq_false_iff_not] at this;omega
 rw [hI];clear hI
 by_cases q4:1024 < ws.length
 ·have d:decide (1024 < (ws.length:Int))=true:=decide_eq_true (by omega);simp only [go_sem,seval,az,hdx,if_pos q4,d];(with_reducible and_intros)<;>first|exact .dq|omega|skip
  all_goals simp [ints]
 have d4:decide (1024 < (ws.length:Int))=false:=decide_eq_false (by omega);have hsr:=vI q2;obtain ⟨hi1,hi2⟩:=MK (l:=ws) (fun n hn=>⟨by have:=hin n hn;omega,by have:=hin n hn;omega⟩) (by omega);have hS:=jO ws (by omega) hi1;have hs0:=lJ hnn;have hmem:=Am hnn;have htk:=fun (h:1<=aC ws) (i:Nat)=>Ky (t:=t) (ws:=ws) (by omega) rfl h hnn i
 have hlr:=fun (h:1<=aC ws)=>vi (t:=t) (ws:=ws) (by omega) rfl h hnn
 rw [hi2,if_pos rfl] at hS;obtain ⟨W,hW⟩:=aO (aC ws);rw [<- hW] at hS hsr hs0 hmem htk hlr |-;simp only [wd] at hS;simp only [go_sem,seval,az,hdx,if_neg q4,d4,List.take_length];(with_reducible and_intros)<;>first|exact .dq|omega|skip
 refine aa.gen [] [] true (by simp) ?_;simp only [go_sem,seval];refine bg.intro hS ?_;clear hS hdx hi1 hi2 d4
 by_cases q5:W=0
 ·rw [q5]
  by_cases q6:t=0
  ·rw [q6];simp only [go_sem,seval,az,if_true,Dm];(with_reducible and_intros)<;>first|exact .dq|omega|skip
   all_goals (first | omega | simp [ints])
  ·have d:(t==0)=false:=by simpa using q6
   simp only [go_sem,seval,az,if_true,bne,d,if_neg q6];(with_reducible and_intros)<;>first|exact .dq|omega|skip
   all_goals simp [ints]
 have hW1:1<=W:=by omega
 have htk:=htk hW1;have hlr:=hlr hW1
 have dW:(W / 18446744073709551616==0&&W%18446744073709551616==0)=false:=by
  rw [Bool.and_eq_false_iff];simp only [beq_eq_false_iff_ne];omega
 have hmid:∀ {Q:Prop},((W / 18446744073709551616==0)=false->Q)->((W / 18446744073709551616==0)=true->(W%18446744073709551616==0)=false->Q)->Q:=fun f g=>by
  cases h:W / 18446744073709551616==0
  ·exact f h
  ·exact g h (by rw [h,Bool.true_and] at dW;exact dW)
 simp only [if_neg q5,if_true];obtain ⟨R,hR⟩:=aO (M9 t W ws);obtain ⟨T,hT⟩:=aO (oE R (t-aC (ux t W ws)).toNat (List.replicate ws.length false) (ux t W ws));rw [<- hR,<- hT];have hRl:R.length=ws.length:=by rw [hR];simp [M9]
 have hbst:=ya R;refine hmid (fun h=>?_) (fun h h'=>?_)
 all_goals
  simp only [go_sem,seval,h]
  try simp only [go_sem,seval,h']
  (with_reducible and_intros)<;>first|exact .dq|omega|skip
  simp only [go_sem,seval,az,Dm,NB];(with_reducible and_intros)<;>first|exact .dq|omega|skip
  try (rw [az];omega)
 all_goals try (rw [az];omega)
 all_goals
  refine aB.walk (S:=Unit) ws.length [0,1,8] [144] (fun i _=>[(13,.int .i64 i),(12,.int .i64 (t-aC (ux t W (ws.take i)))),(10,.ref 176),(11,.ref 192)]) (fun i _=>[(176,.own 1 (ints (yp (fun w=>t*w / W) ws i))),(192,.own 2 (qz (yp (fun w=>t*w%W) ws i)))]) (fun _ _=>True) () trivial ?_ ?_ ?_
  ·simp only [go_sem,seval,Po]<;>simp [ux,aC,az,Dm,NB]
  ·intro i _ hi hdi hwi _;have hm:=ints_at ws hi;have hli:(i:Int) < (ws.length:Int):=by omega
   have hx1:=hin _ (List.getElem_mem hi);have hx2:=hnn _ (List.getElem_mem hi);have hx3:=hmem _ (List.getElem_mem hi);have hp1:=KJ (fun w=>t*w / W) ws (i:=i) (by omega);have hp2:=KJ (fun w=>t*w%W) ws (i:=i) (by omega);have hs1:=IY (fun w=>t*w / W) hi;have hs2:=IY (fun w=>t*w%W) hi;have hpi:=htk i;have hpn:=htk (i+1)
   have hpe:aC (ux t W (ws.take (i+1)))=aC (ux t W (ws.take i))+t*ws[i] / W:=by
    rw [List.take_succ_eq_append_getElem hi];simp only [ux,List.map_append,List.map_cons,List.map_nil,wm]
   obtain ⟨x,hx⟩:=aO (ws[i]);rw [<- hx] at hm hx1 hx2 hx3 hs1 hs2 hpe;have hmr:=fI (a:=t) (b:=x) (A:=4611686018427387904) (B:=4611686018427387904) (by omega) (by omega);have hm0:=Int.mul_nonneg (show 0<=t by omega) hx2;have hpr:=qL (t:=t) (W:=W) (x:=x) (by omega) hW1 hx2 hx3
   have hlt:t*x < W*9223372036854775808:=by
    have h1:t*x<=t*W:=Int.mul_le_mul_of_nonneg_left hx3 (by omega);have h2:t*W<=4611686018427387904*W:=Int.mul_le_mul_of_nonneg_right htin.2 (by omega);omega
   have cT:=lq t x ⟨by omega,by omega⟩ ⟨by omega,by omega⟩;have cD:=AT (t*x) W hm0 (by omega) hW1 (by omega) hlt;obtain ⟨P,hP⟩:=aO (t*x / W);obtain ⟨Z,hZ⟩:=aO (t*x%W);obtain ⟨Y,hY⟩:=aO (t*x);obtain ⟨S,hS⟩:=aO (aC (ux t W (ws.take i)));obtain ⟨A,hA⟩:=aO (yp (fun w=>t*w / W) ws i);obtain ⟨B,hB⟩:=aO (yp (fun w=>t*w%W) ws i);rw [<- hP,<- hZ,<- hY] at cD;rw [<- hY] at cT;rw [<- hP,<- hA] at hs1;rw [<- hZ,<- hB] at hs2;rw [<- hA] at hp1;rw [<- hB] at hp2;rw [<- hP,<- hS] at hpe;rw [<- hS] at hpi;rw [<- hP] at hpr;rw [hpe] at hpn;rw [<- hA,<- hB,<- hS];have hwl:IntKind.wrap .i64 (t-S-P)=t-(S+P):=by rw [bz (by omega) (by omega)];omega
   have hsa:∀ V,((ints A).set i [.int .i64 V]).getD i []=[.int .i64 V]:=fun V=>by simp [ints,hp1,hi]
   have hmA:=ints_at A (i:=i) (by omega);have hmB:=vC B (i:=i) (by omega);simp only [wd] at cT cD;clear hA hB hP hZ hY hS hmid htk hlr hT hR;simp only [go_sem,seval,az,hdi,hm];(with_reducible and_intros)<;>first|exact .dq|omega|skip
   refine aa.pure cT ?_;simp only [go_sem,seval];(with_reducible and_intros)<;>first|exact .dq|omega|skip
   refine aa.pure cD ?_;simp only [go_sem,seval,az,xH,hp1,hp2,hmA,hmB];(with_reducible and_intros)<;>first|exact .dq|omega|skip
   all_goals try simp only [go_sem,seval,az,xH,hp1,hp2,hmA,hmB,hsa,hwl,hwi,List.length_set]
   all_goals (with_reducible and_intros)<;>first|exact .dq|omega|skip
   all_goals first
    | (simp only [List.length_set,az,xH];omega)
    | (refine ah.step () hi trivial ?_
       simp only [go_sem,seval,ints_set,Sl,hs1,hs2,hpe]<;>simp)
  intro _ hdx _;have hP1:ws.map (fun w=>t*w / W)=ux t W ws:=rfl;have hR1:ws.map (fun w=>t*w%W)=R:=hR.symm;have hpl:(ux t W ws).length=ws.length:=by simp [ux]
  have hpv:∀ p∈ux t W ws,0<=p/\p<=4611686018427387904:=fun p hp=>by
   obtain ⟨x,hx,rfl⟩:=List.mem_map.1 hp;have:=qL (t:=t) (W:=W) (x:=x) (by omega) hW1 (hnn x hx) (hmem x hx);omega
  obtain ⟨n0,hn0⟩:∃ n0:Nat,n0=(t-aC (ux t W ws)).toNat:=⟨_,rfl⟩
  have hn1:t-aC (ux t W ws)=(n0:Int):=by omega
  rw [<- hn0] at hT;have hnl:n0 < ws.length:=by omega
  obtain ⟨p0,hp0⟩:=aO (ux t W ws);rw [<- hp0] at hT hpl hpv;rw [List.take_length,IQ,IQ,hP1,hR1,hn1,<- hp0]
  have hloop:∀ gs:List Bool,gs.count true < gs.length->gs.length=ws.length->0<=gF R gs ws.length/\gF R gs ws.length < ws.length/\gs.getD (gF R gs ws.length).toNat true=false:=fun gs h1 h2=>by
   obtain ⟨j,hj,he⟩:=HH h1;have:=GA R gs ws.length ⟨j,by omega,he⟩;exact ⟨this,(hbst gs _).2,Dv R gs _ this⟩
  clear hmid htk hlr hR hP1 hR1 hp0 hn0 hn1 hin hnn hmem;simp only [go_sem,seval,az,hdx,Tw];(with_reducible and_intros)<;>first|exact .dq|omega|skip
  all_goals try (rw [az];omega)
  refine aB.Rw (T:=Nat × List Bool × List Int) [1,11] [192] (fun s=>[(12,.int .i64 (s.1:Nat)),(10,.ref 176),(14,.ref 240)]) (fun s=>[(176,.own 1 (ints s.2.2)),(240,.own 1 (DR s.2.1))])
   (fun s=>oE R s.1 s.2.1 s.2.2=T/\s.2.1.length=ws.length/\s.2.2.length=ws.length/\s.2.1.count true+s.1 < ws.length/\∀ p∈s.2.2,0<=p/\p+(s.1:Nat)<=4611686018427387904+(n0:Nat)) (fun s=>s.1) (n0,List.replicate ws.length false,p0) ?_ ?_ ?_
  ·refine ⟨hT.symm,by simp,hpl,by simp [List.count_replicate];omega,?_⟩;intro p hp;have:=hpv p hp;dsimp only;omega
  ·simp only [go_sem,seval]<;>simp
  rintro ⟨n,gs,ps⟩ ⟨h1,h2,h3,h4,h5⟩
  dsimp only at h1 h2 h3 h4 h5 |-;rcases Nat.eq_zero_or_pos n with rfl | hpos
  ·have h1:ps=T:=h1;rw [h1];simp only [go_sem,seval];refine fm.id ?_;simp only [go_sem,seval]
  obtain ⟨m,rfl⟩:∃ m,n=m+1:=⟨n-1,by omega⟩
  obtain ⟨hb1,hb2,hb3⟩:=hloop gs (by omega) h2;have hd0:decide (0 < ((m+1:Nat):Int))=true:=decide_eq_true (by omega);have hw1:IntKind.wrap .i64 (((m+1:Nat):Int)-1)=(m:Int):=by rw [bz (by omega) (by omega)];omega
  simp only [oE,hRl] at h1;simp only [go_sem,seval,hd0,az];refine aB.walk (S:=Unit) ws.length [1,10,11,12,14] [176,192,240] (fun i _=>[(16,.int .i64 i),(15,.int .i64 (gF R gs i))]) (fun _ _=>[]) (fun _ _=>True) () trivial ?_ ?_ ?_
  ·simp only [go_sem,seval]<;>simp [gF]
  ·intro i _ hi hdi hwi _;have hig:i < gs.length:=by omega
   have hiR:i < R.length:=by omega
   have hmg:=Nx gs hig;have hmi:=vC R hiR;have hgd:gs.getD i true=gs[i]:=by simp [hig]
   have hRd:R.getD i 0=R[i]:=by simp [hiR]
   have hb:=hbst gs i
   have hst:gF R gs (i+1)=if !gs[i]&&(decide (gF R gs i < 0)||decide (R.getD (gF R gs i).toNat 0 < R[i])) then (i:Int) else gF R gs i:=by
    simp only [gF,hgd,hRd]
   have hli:(i:Int) < (gs.length:Int):=by omega
   have hlR:(i:Int) < (R.length:Int):=by omega
   cases hg:gs[i]
   case true =>
    rw [hg] at hst hmg;simp only [Bool.not_true,Bool.false_and,ir,if_false] at hst;simp only [go_sem,seval,az,hdi,hmg,wP,hwi];(with_reducible and_intros)<;>first|exact .dq|omega|skip
    refine ah.step () hi trivial ?_;simp only [go_sem,seval,hst]
   rw [hg] at hst hmg;rcases Int.lt_or_le (gF R gs i) 0 with hb0 | hb0
   ·have d:decide (gF R gs i < 0)=true:=decide_eq_true hb0;simp only [d,Bool.not_false,Bool.true_and,Bool.true_or,if_true] at hst;simp only [go_sem,seval,az,hdi,hmg,wP,d,hwi];(with_reducible and_intros)<;>first|exact .dq|omega|skip
    refine ah.step () hi trivial ?_;simp only [go_sem,seval,hst]
   have d:decide (gF R gs i < 0)=false:=decide_eq_false (by omega);obtain ⟨b,hbb⟩:∃ b:Nat,gF R gs i=b:=⟨(gF R gs i).toNat,by omega⟩
   have hbR:b < R.length:=by omega
   have hmb:=vC R hbR;have hbd:R.getD b 0=R[b]:=by simp [hbR]
   have hlb:(b:Int) < (R.length:Int):=by omega
   have cL:=rY R[b] R[i];rw [hbb] at d hst;simp only [d,Bool.not_false,Bool.true_and,Bool.false_or,Int.toNat_natCast,hbd] at hst;simp only [wd] at cL;simp only [hbb];simp only [go_sem,seval,az,hdi,hmg,wP,d,hmb,hmi,xH];(with_reducible and_intros)<;>first|exact .dq|omega|skip
   refine aa.pure cL ?_
   by_cases hl:R[b] < R[i]
   ·have d2:decide (R[b] < R[i])=true:=decide_eq_true hl;rw [d2,if_pos rfl] at hst;simp only [go_sem,seval,d2,hwi];(with_reducible and_intros)<;>first|exact .dq|omega|skip
    refine ah.step () hi trivial ?_;simp only [go_sem,seval,hst]
   ·have d2:decide (R[b] < R[i])=false:=decide_eq_false hl;rw [d2,if_neg (by simp)] at hst;simp only [go_sem,seval,d2,hwi];(with_reducible and_intros)<;>first|exact .dq|omega|skip
    refine ah.step () hi trivial ?_;simp only [go_sem,seval,hst]
  ·intro _ hdx _;obtain ⟨b,hbb⟩:∃ b:Nat,gF R gs ws.length=b:=⟨(gF R gs ws.length).toNat,by omega⟩
   rw [hbb] at h1 hb1 hb2 hb3 |-;rw [Int.toNat_natCast] at h1 hb3;have hbg:b < gs.length:=by omega
   have hbp:b < ps.length:=by omega
   have hmg:=Nx gs hbg;have hmp:=ints_at ps hbp;have hpd:ps.getD b 0=ps[b]:=by simp [hbp]
   have hlg:(b:Int) < (gs.length:Int):=by omega
   have hlp:(b:Int) < (ps.length:Int):=by omega
   have hpr:=h5 ps[b] (List.getElem_mem hbp);have hwp:IntKind.wrap .i64 (ps[b]+1)=ps[b]+1:=bz (by omega) (by omega);rw [hpd] at h1;have hcs:=count_set hb3
   have h5':∀ p∈ps.set b (ps[b]+1),0<=p/\p+(m:Nat)<=4611686018427387904+(n0:Nat):=fun p hp=>by
    rcases List.mem_or_eq_of_mem_set hp with h | rfl
    ·have:=h5 p h;omega
    ·omega
   simp only [go_sem,seval,az,hdx,hmg,hmp,wP,hwp,hw1];(with_reducible and_intros)<;>first|exact .dq|omega|skip
   refine ⟨(m,gs.set b true,ps.set b (ps[b]+1)),⟨h1,by simp [h2],by simp [h3],by dsimp only;omega,h5'⟩,?_,by simp⟩;simp only [go_sem,seval,ints_set,SR]<;>simp
theorem uZ (t:Int) (ws:List Int) (hl:ws.length < 2 ^ 30):Abs.Spec Tryz.prog 290 [] [.int .i64 t,.sl 1 (ints ws)] [] (.bD [.sl 1 (ints (fN t ws)),.int .i64 (iJ t ws)]):=by
 refine Spec.frozen (GH t ws hl) [0] rfl ?_;intro r;rcases r with _ | r<;>rfl
theorem Fb {rs:List Int} {B:Int}:∀ (n:Nat) (gs:List Bool) (ps:List Int),0<=B->(∀ p∈ps,0<=p/\p<=B)->∀ p∈oE rs n gs ps,0<=p/\p<=B+n
 | 0,_,_,_,h=>fun p hp=>by have:=h p hp;simp;omega
 | n+1,gs,ps,hB,h=>by
  intro p hp;simp only [oE] at hp
  have:=Fb (B:=B+1) n _ _ (by omega) (fun q hq=>by
   rcases List.mem_or_eq_of_mem_set hq with h1 | rfl
   ·have:=h q h1;omega
   ·have:0<=ps.getD (gF rs gs rs.length).toNat 0/\ps.getD (gF rs gs rs.length).toNat 0<=B:=by
     rw [List.getD_eq_getElem?_getD];cases he:ps[(gF rs gs rs.length).toNat]? with
     | none=>simp;exact hB
     | some x=>exact h x (List.mem_of_getElem? he)
    omega) p hp
  push_cast;omega
theorem Lu (t:Int) (ws:List Int):∀ p∈fN t ws,0<=p/\p<=4611686018427388928:=by
 intro p hp;unfold fN at hp;split at hp
 ·rename_i hE;unfold iJ at hE;split at hE
  ·rename_i h1;simp only [cg,Bool.not_eq_true',decide_eq_false_iff_not] at h1;split at hE
   ·rename_i h2;split at hE
    ·cases hE
    ·rename_i h3;split at hp
     ·have:p=0:=by simpa using (List.mem_replicate.1 hp).2
      omega
     ·rename_i h4
      have hnn:∀ x∈ws,0<=x:=fun x hx=>by
       have:=List.all_eq_true.1 h2 x hx;simp only [Bool.not_eq_true',decide_eq_false_iff_not] at this;omega
      have hs0:=lJ hnn;have hlr:=vi (t:=t) (ws:=ws) (by omega) rfl (by omega) hnn;have htr:=cR.1 h1.1.2
      have:=Fb (B:=4611686018427387904) _ _ _ (by decide) (fun q hq=>by
       obtain ⟨x,hx,rfl⟩:=List.mem_map.1 hq;have:=qL (t:=t) (W:=aC ws) (x:=x) (by omega) (by omega) (hnn x hx) (Am hnn x hx)
       omega) p hp
      omega
   ·cases hE
  ·cases hE
 ·cases hp
def xL (c:Int) (ws:List Int):Bool:=lV (fun x=>within x 1 16) (fun a b=>decide (a < b)) ws&&within c 0 2
theorem uA (c:Int) (ws:List Int) (hl:ws.length < 2 ^ 30):Abs.Spec Tryz.prog 278 [] [.int .i64 c,.sl 1 (ints ws)] [] (.bool (xL c ws)):=by
 have c2:=fH c;simp only [xL];refine aU 36 2 [.tmp 4] mixed Tryz.func278 ?_;simp only [go_sem,seval,az];refine aB.walk (S:=Unit) ws.length [0,1] [] (fun i _=>[(5,.int .i64 i)]) (fun _ _=>[]) (fun i _=>∀ j < i,ke (fun x=>within x 1 16) (fun a b=>decide (a < b)) ws j=true) () (by simp) ?_ ?_ ?_
 ·simp only [go_sem,seval]<;>simp
 ·intro i _ hi hdi hwi hI;have hm:=ints_at ws hi;have hli:(i:Int) < (ws.length:Int):=by omega
  have h1:=fD ws[i];have e0:=nr (ok:=fun x=>within x 1 16) (lt:=fun a b:Int=>decide (a < b)) (xs:=ws) (i:=i) hI;have e1:ke (fun x=>within x 1 16) (fun a b=>decide (a < b)) ws i=false->lV (fun x=>within x 1 16) (fun a b=>decide (a < b)) ws=false:=fun h=>qX hi h
  rcases Nat.eq_zero_or_pos i with rfl | hpos
  ·have hk:=gz (ok:=fun x=>within x 1 16) (lt:=fun a b:Int=>decide (a < b)) hi;have hd0:decide ((0:Int) < (ws.length:Int))=true:=decide_eq_true (by omega);simp only [go_sem,seval,az,hd0,hm];(with_reducible and_intros)<;>first|exact .dq|omega|skip
   refine aa.pure h1 ?_;cases q:within ws[0] 1 16
   ·have:=e1 (by rw [hk,q]);simp only [go_sem,seval,q,this,Bool.false_and]
    all_goals (with_reducible and_intros)<;>first|exact .dq|omega|skip
   simp only [go_sem,seval,q,hwi]
   all_goals (with_reducible and_intros)<;>first|exact .dq|omega|skip
   all_goals refine ah.step () hi (e0 (by rw [hk,q])) ?_
   all_goals simp only [go_sem,seval]
   all_goals rfl
  ·obtain ⟨j,rfl⟩:∃ j,i=j+1:=⟨i-1,by omega⟩
   have hj:j < ws.length:=by omega
   have hw1:IntKind.wrap .i64 (((j+1:Nat):Int)-1)=(j:Int):=by rw [bz (by omega) (by omega)];omega
   have hk:=fT (ok:=fun x=>within x 1 16) (lt:=fun a b:Int=>decide (a < b)) hi;have hmj:=ints_at ws hj;have hd:decide (0 < ((j+1:Nat):Int))=true:=decide_eq_true (by omega);simp only [go_sem,seval,az,hdi,hm];(with_reducible and_intros)<;>first|exact .dq|omega|skip
   refine aa.pure h1 ?_;cases q:within ws[j+1] 1 16
   ·have:=e1 (by rw [hk,q];rfl);simp only [go_sem,seval,q,this,Bool.false_and]
    all_goals (with_reducible and_intros)<;>first|exact .dq|omega|skip
   by_cases q2:ws[j] < ws[j+1]
   ·have d:decide (ws[j+1]<=ws[j])=false:=decide_eq_false (by omega);simp only [go_sem,seval,q,hd,hw1,hmj,hm,az,d,hwi];(with_reducible and_intros)<;>first|exact .dq|omega|skip
    refine ah.step () hi (e0 (by rw [hk,q,decide_eq_true q2];rfl)) ?_;simp only [go_sem,seval]
   ·have d:decide (ws[j+1]<=ws[j])=true:=decide_eq_true (by omega);have:=e1 (by rw [hk,q,decide_eq_false q2];rfl);simp only [go_sem,seval,q,hd,hw1,hmj,hm,az,d,this,Bool.false_and];(with_reducible and_intros)<;>first|exact .dq|omega|skip
 ·intro _ hdx hI;have:=lY (fun j (hj:j < ws.length)=>hI j hj);simp only [go_sem,seval,az,hdx,this];(with_reducible and_intros)<;>first|exact .dq|omega|skip
  refine aa.pure c2 ?_;simp only [go_sem,seval,Bool.true_and]
def gO (l:bn) (c:Int) (ws:List Int):List Int:=ws.map fun w=>gG ⟨3,w,c⟩ l.bs
theorem Hu (l:bn) (c:Int) (ws:List Int) (hb:l.bs.length < 2 ^ 30) (hl:ws.length < 2 ^ 30):Abs.Spec Tryz.prog 279 [] [.agg l.cells,.int .i64 c,.sl 1 (ints ws)] [.own 1 (ints (gO l c ws))] (.ref 0):=by
 have cO:=fun a=>jQ l a hb
 simp only [bn.cells,aJ.cells] at cO |-;refine aU 27 3 [.tmp 6] mixed Tryz.func279 ?_;simp only [go_sem,seval,az];refine aB.walk (S:=Unit) ws.length [1,2,3] [64] (fun i _=>[(8,.int .i64 i),(7,.ref 416)]) (fun i _=>[(416,.own 1 (ints (gO l c (ws.take i))))]) (fun _ _=>True) () trivial ?_ ?_ ?_
 ·simp only [go_sem,seval]<;>simp [gO,ints]
 ·intro i _ hi hdi hwi _;have hm:=ints_at ws hi;have hli:(i:Int) < (ws.length:Int):=by omega
  have hs:ints (gO l c (ws.take (i+1)))=ints (gO l c (ws.take i))++[[.int .i64 (gG ⟨3,ws[i],c⟩ l.bs)]]:=by
   rw [List.take_succ_eq_append_getElem hi];simp only [gO,ints,List.map_append,List.map_cons,List.map_nil]
  have hlen:(gO l c (ws.take i)).length=i:=by simp [gO];omega
  have cOi:=cO ⟨3,ws[i],c⟩;clear cO;simp only [go_sem,seval,az,hdi,hm];(with_reducible and_intros)<;>first|exact .dq|omega|skip
  refine aa.pure cOi ?_;simp only [go_sem,seval,az,hlen,hwi];(with_reducible and_intros)<;>first|exact .dq|omega|skip
  refine ah.step () hi trivial ?_;simp only [go_sem,seval,hs]
 ·intro _ hdx _;simp only [go_sem,seval,az,hdx,List.take_length]
theorem u0 (l:bn) (c:Int) (ws:List Int) (hb:l.bs.length < 2 ^ 30) (hl:ws.length < 2 ^ 30):Abs.Spec Tryz.prog 279 [] [.agg l.cells,.int .i64 c,.sl 1 (ints ws)] [] (.sl 1 (ints (gO l c ws))):=by
 refine Spec.frozen (Hu l c ws hb hl) [0] rfl ?_;intro r;rcases r with _ | r<;>rfl
def gQ (r:aq) (ws:List Int):List Int:=ws.map fun w=>(eV r w).need
theorem D8 (r:aq) (ws:List Int) (h:r.gZ) (hl:ws.length < 2 ^ 30):Abs.Spec Tryz.prog 280 [] [.agg r.cells,.sl 1 (ints ws)] [.own 1 (ints (gQ r ws))] (.ref 0):=by
 have cM:=fun n=>bV r n h.small
 simp only [aq.cells] at cM |-;refine aU 30 2 [.tmp 4] mixed Tryz.func280 ?_;simp only [go_sem,seval,az];refine aB.walk (S:=Unit) ws.length [1,2] [48] (fun i _=>[(6,.int .i64 i),(5,.ref 464)]) (fun i _=>[(464,.own 1 (ints (gQ r (ws.take i))))]) (fun _ _=>True) () trivial ?_ ?_ ?_
 ·simp only [go_sem,seval]<;>simp [gQ,ints]
 ·intro i _ hi hdi hwi _;have hm:=ints_at ws hi;have hli:(i:Int) < (ws.length:Int):=by omega
  have hs:ints (gQ r (ws.take (i+1)))=ints (gQ r (ws.take i))++[[.int .i64 (eV r ws[i]).need]]:=by
   rw [List.take_succ_eq_append_getElem hi];simp only [gQ,ints,List.map_append,List.map_cons,List.map_nil]
  have hlen:(gQ r (ws.take i)).length=i:=by simp [gQ];omega
  have cMi:=cM ws[i];obtain ⟨g,hg⟩:=aO (eV r ws[i]);rw [<- hg] at cMi hs;simp only [ak.cells] at cMi;clear cM;simp only [go_sem,seval,az,hdi,hm];(with_reducible and_intros)<;>first|exact .dq|omega|skip
  refine aa.pure cMi ?_;simp only [go_sem,seval,az,hlen,hwi];(with_reducible and_intros)<;>first|exact .dq|omega|skip
  refine ah.step () hi trivial ?_;simp only [go_sem,seval,hs]
 ·intro _ hdx _;simp only [go_sem,seval,az,hdx,List.take_length]
theorem sD (r:aq) (ws:List Int) (h:r.gZ) (hl:ws.length < 2 ^ 30):Abs.Spec Tryz.prog 280 [] [.agg r.cells,.sl 1 (ints ws)] [] (.sl 1 (ints (gQ r ws))):=by
 refine Spec.frozen (D8 r ws h hl) [0] rfl ?_;intro r;rcases r with _ | r<;>rfl
theorem xG {A:Type} {no:A->Int} {n:Int} {z:A} {R:A->Prop} (hz:R z):∀ {xs:List A},(∀ x∈xs,R x)->R (fP no n z xs)
 | [],_=>hz
 | x :: r,h=>by
  simp only [fP];split
  ·exact h x (by simp)
  ·exact xG hz fun y hy=>h y (by simp [hy])
theorem NZ {r:aq} (h:∀ m∈r.ms,m.dz) (n:Int):(eV r n).dz:=xG (R:=ak.dz) ⟨⟨by decide,by decide⟩,⟨by decide,by decide⟩,⟨by decide,by decide⟩⟩ h
def gK (l:bn) (c:Int) (ws:List Int):Int:=if l.okB then (if xL c ws then (if bS (aC (gO l c ws)) then 0 else 1) else 3) else 14
def oO (l:bn) (c:Int) (ws:List Int):Int:=if gK l c ws=0 then aC (gO l c ws) else 0
theorem tw (l:bn) (c:Int) (ws:List Int) (hb:l.bs.length < 2 ^ 30) (hr:∀ b∈l.bs,b.dz) (hl:ws.length < 2 ^ 29):Abs.Spec Tryz.prog 251 [] [.agg l.cells,.int .i64 c,.sl 1 (ints ws)] [] (.bD [.int .i64 (oO l c ws),.int .i64 (gK l c ws)]):=by
 have c1:=ig l hb hr;have c2:=uA c ws (by omega);have c3:=u0 l c ws hb (by omega);have c4:=cu (gO l c ws) (fun n hn=>by obtain ⟨w,_,rfl⟩:=List.mem_map.1 hn;exact Nl hr) (by simp [gO];omega);simp only [bn.cells] at c1 c3 |-;refine aU 28 3 [.tmp 6,.tmp 7] mixed Tryz.func251 ?_;simp only [go_sem,seval];(with_reducible and_intros)<;>first|exact .dq|omega|skip
 refine aa.pure c1 ?_;cases b1:l.okB
 ·have e:gK l c ws=14:=by simp [gK,b1]
  simp only [go_sem,seval,oO,e]<;>simp
 simp only [go_sem,seval];(with_reducible and_intros)<;>first|exact .dq|omega|skip
 refine aa.pure c2 ?_;cases b2:xL c ws
 ·have e:gK l c ws=3:=by simp [gK,b1,b2]
  simp only [go_sem,seval,oO,e]<;>simp
 have e:gK l c ws=if bS (aC (gO l c ws)) then 0 else 1:=by simp [gK,b1,b2]
 simp only [oO];rw [e];simp only [go_sem,seval];(with_reducible and_intros)<;>first|exact .dq|omega|skip
 refine aa.pure c3 ?_;simp only [go_sem,seval];(with_reducible and_intros)<;>first|exact .dq|omega|skip
 refine aa.pure c4 ?_;cases q:bS (aC (gO l c ws))<;>simp only [go_sem,seval,q,addN]<;>simp
def jF (r:aq) (ws:List Int):Int:=if r.okB then (if xL 0 ws then (if bS (aC (gQ r ws)) then 0 else 1) else 3) else 14
def tE (r:aq) (ws:List Int):Int:=if jF r ws=0 then aC (gQ r ws) else 0
theorem uH (r:aq) (ws:List Int) (h:r.gZ) (hr:∀ m∈r.ms,m.dz) (hl:ws.length < 2 ^ 29):Abs.Spec Tryz.prog 253 [] [.agg r.cells,.sl 1 (ints ws)] [] (.bD [.int .i64 (tE r ws),.int .i64 (jF r ws)]):=by
 have c1:=dK r h.small;have c2:=uA 0 ws (by omega);have c3:=sD r ws h (by omega);have c4:=cu (gQ r ws) (fun n hn=>by obtain ⟨w,_,rfl⟩:=List.mem_map.1 hn;exact (NZ hr w).2.2) (by simp [gQ];omega);simp only [aq.cells] at c1 c3 |-;refine aU 24 2 [.tmp 4,.tmp 5] mixed Tryz.func253 ?_;simp only [go_sem,seval];(with_reducible and_intros)<;>first|exact .dq|omega|skip
 refine aa.pure c1 ?_;cases b1:r.okB
 ·have e:jF r ws=14:=by simp [jF,b1]
  simp only [go_sem,seval,tE,e]<;>simp
 simp only [go_sem,seval];(with_reducible and_intros)<;>first|exact .dq|omega|skip
 refine aa.pure c2 ?_;cases b2:xL 0 ws
 ·have e:jF r ws=3:=by simp [jF,b1,b2]
  simp only [go_sem,seval,tE,e]<;>simp
 have e:jF r ws=if bS (aC (gQ r ws)) then 0 else 1:=by simp [jF,b1,b2]
 simp only [tE];rw [e];simp only [go_sem,seval];(with_reducible and_intros)<;>first|exact .dq|omega|skip
 refine aa.pure c3 ?_;simp only [go_sem,seval];(with_reducible and_intros)<;>first|exact .dq|omega|skip
 refine aa.pure c4 ?_;cases q:bS (aC (gQ r ws))<;>simp only [go_sem,seval,q,addN]<;>simp
def sF (k c:Int) (ws ps:List Int) (i:Nat):List aS:=[⟨k,ws.getD i 0,c,-(ps.getD i 0)⟩]
def BE (k c n:Int) (ws ps:List Int):List aS:=⟨6,0,c,n⟩ :: oq (sF k c ws ps) ps.length
def sj (k c n all:Int) (ws gs:List Int):Int:=if within n 0 4611686018427387904 then (if all < n then 13 else mX (BE k c n ws (fN n gs))) else 3
def tq (k c n all:Int) (ws gs:List Int):List aS:=if sj k c n all ws gs=0 then iY (BE k c n ws (fN n gs)) else []
theorem uJ (k c n all:Int) (ws gs:List Int) (he:gs.length=ws.length) (hl:ws.length < 2 ^ 27):Abs.Spec Tryz.prog 282 [] [.int .i64 k,.int .i64 c,.int .i64 n,.int .i64 all,.sl 1 (ints ws),.sl 1 (ints gs)] [] (.bD [.sl 4 ((tq k c n all ws gs).map aS.cells),.int .i64 (sj k c n all ws gs)]):=by
 have c1:=fF n 0 4611686018427387904;have c2:=uZ n gs (by omega);have hpl:=qP n gs;have hpr:=Lu n gs
 have e0:within n 0 4611686018427387904=true -> ¬ all < n->tq k c n all ws gs=iY (BE k c n ws (fN n gs)):=fun h1 h2=>by
  simp only [tq,sj,h1,if_neg h2,if_true];split
  ·rfl
  ·rename_i h;simp [iY,h]
 refine aU 61 6 [.tmp 12,.tmp 13] mixed Tryz.func282 ?_;simp only [go_sem,seval];(with_reducible and_intros)<;>first|exact .dq|omega|skip
 refine aa.pure c1 ?_;cases b1:within n 0 4611686018427387904
 ·have e:sj k c n all ws gs=3:=by simp [sj,b1]
  simp only [go_sem,seval,tq,e]<;>simp
 by_cases b2:all < n
 ·have d:decide (all < n)=true:=decide_eq_true b2;have e:sj k c n all ws gs=13:=by simp [sj,b1,b2]
  simp only [go_sem,seval,d,tq,e]<;>simp
 have d2:decide (all < n)=false:=decide_eq_false b2;have e:sj k c n all ws gs=mX (BE k c n ws (fN n gs)):=by simp [sj,b1,b2]
 rw [e,e0 b1 b2];clear e e0 c1;obtain ⟨ps,hps⟩:=aO (fN n gs);rw [<- hps] at c2 hpl hpr |-;have hgl:=kE (f:=sF k c ws ps) (m:=1) (fun i=>by simp [sF]) ps.length;have cJ:=lZ (BE k c n ws ps) (by simp only [BE,List.length_cons];omega);simp only [go_sem,seval,d2];(with_reducible and_intros)<;>first|exact .dq|omega|skip
 refine aa.pure c2 ?_;simp only [go_sem,seval,az];(with_reducible and_intros)<;>first|exact .dq|omega|skip
 refine aB.walk (S:=Unit) ps.length [0,1,4,14] [] (fun i _=>[(17,.int .i64 i),(16,.ref 912)]) (fun i _=>[(912,.own 4 ((⟨6,0,c,n⟩ :: oq (sF k c ws ps) i:List aS).map aS.cells))]) (fun _ _=>True) () trivial ?_ ?_ ?_
 ·simp only [go_sem,seval,kn]<;>simp
 ·intro i _ hi hdi hwi _;have hm:=ints_at ps hi;have hiw:i < ws.length:=by omega
  have hmw:=ints_at ws hiw;have hp:=hpr ps[i] (List.getElem_mem hi);have hw:IntKind.wrap .i64 (0-ps[i]) = -ps[i]:=by rw [bz (by omega) (by omega)];omega
  have hs:(⟨6,0,c,n⟩ :: oq (sF k c ws ps) (i+1):List aS)=(⟨6,0,c,n⟩ :: oq (sF k c ws ps) i)++[⟨k,ws[i],c,-ps[i]⟩]:=by
   rw [iZ];simp [sF,hi,hiw]
  have hll:=kE (f:=sF k c ws ps) (m:=1) (fun i=>by simp [sF]) i;obtain ⟨L,hL⟩:=aO ((⟨6,0,c,n⟩ :: oq (sF k c ws ps) i:List aS));have hLl:L.length<=i+1:=by rw [hL,List.length_cons];omega
  rw [<- hL] at hs |-;have hlw:(i:Int) < (ws.length:Int):=by omega
  have hlp:(i:Int) < (ps.length:Int):=by omega
  clear cJ;simp only [go_sem,seval,az,hdi,hm,hmw,hw,hwi,aI];(with_reducible and_intros)<;>first|exact .dq|omega|skip
  refine ah.step () hi trivial ?_;simp only [go_sem,seval];have hsm:=congrArg (List.map aS.cells) hs;simp only [List.map_append,List.map_cons,List.map_nil] at hsm |-;exact hsm.symm
 ·intro _ hdx _;simp only [go_sem,seval,az,hdx];(with_reducible and_intros)<;>first|exact .dq|omega|skip
  refine aa.gen [912] [] false (by simp) ?_;simp only [go_sem,seval];refine bg.intro cJ ?_;simp only [go_sem,seval]
def Jq (l:bn) (c n:Int) (ws:List Int):Int:=if gK l c ws=0 then sj 3 c n (oO l c ws) ws (gO l c ws) else gK l c ws
def za (l:bn) (c n:Int) (ws:List Int):List aS:=if gK l c ws=0 then tq 3 c n (oO l c ws) ws (gO l c ws) else []
theorem GX (l:bn) (c n:Int) (ws:List Int) (hb:l.bs.length < 2 ^ 30) (hr:∀ b∈l.bs,b.dz) (hl:ws.length < 2 ^ 27):Abs.Spec Tryz.prog 256 [] [.agg l.cells,.int .i64 c,.int .i64 n,.sl 1 (ints ws)] [] (.bD [.sl 4 ((za l c n ws).map aS.cells),.int .i64 (Jq l c n ws)]):=by
 have c1:=tw l c ws hb hr (by omega);have c2:=u0 l c ws hb (by omega);have c3:=uJ 3 c n (oO l c ws) ws (gO l c ws) (by simp [gO]) hl;simp only [bn.cells] at c1 c2 |-;simp only [za,Jq];refine aU 33 4 [.tmp 8,.tmp 9] mixed Tryz.func256 ?_;simp only [go_sem,seval];(with_reducible and_intros)<;>first|exact .dq|omega|skip
 refine aa.pure c1 ?_
 by_cases b1:gK l c ws=0
 case neg =>
  have d:(gK l c ws==0)=false:=by simpa using b1
  simp only [go_sem,seval,bne,d,if_neg b1]<;>simp
 rw [b1,if_pos rfl,if_pos rfl];simp only [go_sem,seval];(with_reducible and_intros)<;>first|exact .dq|omega|skip
 refine aa.pure c2 ?_;simp only [go_sem,seval];(with_reducible and_intros)<;>first|exact .dq|omega|skip
 refine aa.pure c3 ?_;simp only [go_sem,seval]
def wB (r:aq) (c n:Int) (ws:List Int):Int:=if jF r ws=0 then (if within c 0 2 then sj 2 c n (tE r ws) ws (gQ r ws) else 3) else jF r ws
def oL (r:aq) (c n:Int) (ws:List Int):List aS:=if jF r ws=0&&within c 0 2 then tq 2 c n (tE r ws) ws (gQ r ws) else []
theorem BF (r:aq) (c n:Int) (ws:List Int) (h:r.gZ) (hr:∀ m∈r.ms,m.dz) (hl:ws.length < 2 ^ 27):Abs.Spec Tryz.prog 257 [] [.agg r.cells,.int .i64 c,.int .i64 n,.sl 1 (ints ws)] [] (.bD [.sl 4 ((oL r c n ws).map aS.cells),.int .i64 (wB r c n ws)]):=by
 have c1:=uH r ws h hr (by omega);have c2:=sD r ws h (by omega);have c3:=uJ 2 c n (tE r ws) ws (gQ r ws) (by simp [gQ]) hl;have c4:=fH c;simp only [aq.cells] at c1 c2 |-;simp only [oL,wB];refine aU 34 4 [.tmp 8,.tmp 9] mixed Tryz.func257 ?_;simp only [go_sem,seval];(with_reducible and_intros)<;>first|exact .dq|omega|skip
 refine aa.pure c1 ?_
 by_cases b1:jF r ws=0
 case neg =>
  have d:(jF r ws==0)=false:=by simpa using b1
  simp only [go_sem,seval,bne,d,if_neg b1]<;>simp [b1]
 rw [b1,if_pos rfl];simp only [go_sem,seval];(with_reducible and_intros)<;>first|exact .dq|omega|skip
 refine aa.pure c4 ?_;cases b2:within c 0 2
 ·simp only [go_sem,seval]<;>simp
 simp only [go_sem,seval];(with_reducible and_intros)<;>first|exact .dq|omega|skip
 refine aa.pure c2 ?_;simp only [go_sem,seval];(with_reducible and_intros)<;>first|exact .dq|omega|skip
 refine aa.pure c3 ?_;simp only [go_sem,seval]<;>simp
def rF (ws ps:List Int) (i:Nat):List dO:=if 0 < ps.getD i 0 then [⟨ws.getD i 0,ps.getD i 0,0⟩] else []
def Kt (ws ps:List Int):List dO:=oq (rF ws ps) ps.length
def nE (b:aG) (w n k:Int):Int:=if b.okB then (if within k 0 1099511627776 then (if aC (o7 (posOf w n b.qs).aX n b.qs) < k then 13 else 0) else 3) else 14
def nR (b:aG) (w n k:Int):List dO:=if nE b w n k=0 then Kt (yI (posOf w n b.qs).aX n b.qs) (fN k (o7 (posOf w n b.qs).aX n b.qs)) else []
theorem yg {A:Type} (p:A->Bool) (f g:A->Int):∀ l:List A,(pick p f l).length=(pick p g l).length
 | []=>rfl
 | x :: r=>by
  have:=yg p f g r;simp only [pick,List.flatMap_cons,List.length_append] at this |-;split<;>simp [this]
theorem yL {B:Int} (hB:0<=B):∀ {l:List Int},(∀ x∈l,0<=x/\x<=B)->0<=aC l/\aC l<=B*l.length
 | [],_=>by simp [aC]
 | x :: r,h=>by
  have h1:=h x (by simp);have h2:=yL hB (l:=r) fun y hy=>h y (by simp [hy])
  simp only [aC,List.length_cons];push_cast;rw [Int.mul_add];omega
theorem Iw (b:aG) (w n k:Int) (hb:b.small) (hr:∀ p∈b.qs,p.dz) (hq:b.qs.length < 2 ^ 20):Abs.Spec Tryz.prog 277 [] [.agg b.cells,.agg [.int .i64 w,.int .i64 n],.int .i64 k] [.own 3 ((nR b w n k).map dO.cells)] (.bD [.ref 0,.int .i64 (nE b w n k)]):=by
 have c1:=gX b hb hr;have c2:=fF k 0 1099511627776;simp only [aG.cells] at c1 |-;refine aU 73 3 [.tmp 6,.tmp 7] mixed Tryz.func277 ?_;simp only [go_sem,seval];(with_reducible and_intros)<;>first|exact .dq|omega|skip
 refine aa.pure c1 ?_;cases b1:b.okB
 ·have e:nE b w n k=14:=by simp [nE,b1]
  simp only [go_sem,seval,nR,e]<;>simp
 simp only [go_sem,seval];(with_reducible and_intros)<;>first|exact .dq|omega|skip
 refine aa.pure c2 ?_;cases b2:within k 0 1099511627776
 ·have e:nE b w n k=3:=by simp [nE,b1,b2]
  simp only [go_sem,seval,nR,e]<;>simp
 have e:nE b w n k=if aC (o7 (posOf w n b.qs).aX n b.qs) < k then 13 else 0:=by simp [nE,b1,b2]
 have hpn:=fun p hp=>Ct (Br b1 p hp)
 have c3:=BR b w n hb (fun p hp=>⟨(hpn p hp).1,(hpn p hp).2.1⟩);have hsame:(yI (posOf w n b.qs).aX n b.qs).length=(o7 (posOf w n b.qs).aX n b.qs).length:=yg _ _ _ _;have hnl:(o7 (posOf w n b.qs).aX n b.qs).length<=b.qs.length:=bY _ _ _;have hnr:∀ x∈o7 (posOf w n b.qs).aX n b.qs,0<=x/\x<=1099511627776:=kj fun p hp=>by have:=hpn p hp;omega
 simp only [nR];rw [e];obtain ⟨ns,hns⟩:=aO (o7 (posOf w n b.qs).aX n b.qs);obtain ⟨ws,hws⟩:=aO (yI (posOf w n b.qs).aX n b.qs);rw [<- hns] at hsame hnl hnr c3 |-;rw [<- hws] at hsame c3 |-;simp only [aG.cells] at c3;clear hns hws e c1 c2;simp only [go_sem,seval];(with_reducible and_intros)<;>first|exact .dq|omega|skip
 refine aa.pure c3 ?_;clear c3;simp only [go_sem,seval,az];(with_reducible and_intros)<;>first|exact .dq|omega|skip
 refine aB.walk (S:=Unit) ns.length [2,8,9] [] (fun i _=>[(11,.int .i64 i),(10,.int .i64 (aC (ns.take i)))]) (fun _ _=>[]) (fun _ _=>True) () trivial ?_ ?_ ?_
 ·simp only [go_sem,seval]<;>simp [aC]
 ·intro i _ hi hdi hwi _;have hm:=ints_at ns hi;have hs:aC (ns.take (i+1))=aC (ns.take i)+ns[i]:=by rw [List.take_succ_eq_append_getElem hi,wm]
  have h1:=yL (B:=1099511627776) (by decide) (l:=ns.take i) fun x hx=>hnr x (List.mem_of_mem_take hx)
  have h2:=hnr ns[i] (List.getElem_mem hi);have hlt:(ns.take i).length=i:=by simp;omega
  obtain ⟨S,hS⟩:=aO (aC (ns.take i));rw [<- hS] at hs h1 |-;rw [hlt] at h1;have hw:IntKind.wrap .i64 (S+ns[i])=S+ns[i]:=bz (by omega) (by omega);have hli:(i:Int) < (ns.length:Int):=by omega
  simp only [go_sem,seval,az,hdi,hm,hw,hwi];(with_reducible and_intros)<;>first|exact .dq|omega|skip
  refine ah.step () hi trivial ?_;simp only [go_sem,seval,hs]
 intro _ hdx _;rw [List.take_length]
 by_cases b3:aC ns < k
 ·have d:decide (aC ns < k)=true:=decide_eq_true b3;simp only [go_sem,seval,az,hdx,d,if_pos b3]<;>simp
 have d3:decide (aC ns < k)=false:=decide_eq_false b3;have c4:=uZ k ns (by omega);have hpl:=qP k ns;simp only [if_neg b3];obtain ⟨ps,hps⟩:=aO (fN k ns);rw [<- hps] at c4 hpl |-;simp only [go_sem,seval,az,hdx,d3];(with_reducible and_intros)<;>first|exact .dq|omega|skip
 refine aa.pure c4 ?_;clear c4 hdx;simp only [go_sem,seval,az,if_true];(with_reducible and_intros)<;>first|exact .dq|omega|skip
 refine aB.walk (S:=Unit) ps.length [8,12] [] (fun i _=>[(15,.int .i64 i),(14,.ref 1152)]) (fun i _=>[(1152,.own 3 ((oq (rF ws ps) i).map dO.cells))]) (fun _ _=>True) () trivial ?_ ?_ ?_
 ·simp only [go_sem,seval,kn]<;>simp
 ·intro i _ hi hdi hwi _;have hiw:i < ws.length:=by omega
  have hm:=ints_at ps hi;have hmw:=ints_at ws hiw;have hgp:ps.getD i 0=ps[i]:=by simp [hi]
  have hgw:ws.getD i 0=ws[i]:=by simp [hiw]
  have hs:=iZ (rF ws ps) i;have hll:=kE (f:=rF ws ps) (m:=1) (fun i=>by unfold rF;split<;>simp) i;obtain ⟨L,hL⟩:=aO (oq (rF ws ps) i);rw [<- hL] at hs hll |-;simp only [rF,hgp,hgw] at hs;have hlw:(i:Int) < (ws.length:Int):=by omega
  have hlp:(i:Int) < (ps.length:Int):=by omega
  by_cases q:0 < ps[i]
  ·have d:decide (0 < ps[i])=true:=decide_eq_true q;rw [if_pos q] at hs;simp only [go_sem,seval,az,hdi,hm,d,hmw,hwi,aI];(with_reducible and_intros)<;>first|exact .dq|omega|skip
   refine ah.step () hi trivial ?_;simp only [go_sem,seval,hs]<;>simp
  ·have d:decide (0 < ps[i])=false:=decide_eq_false q;rw [if_neg q,List.append_nil] at hs;simp only [go_sem,seval,az,hdi,hm,d,hwi];(with_reducible and_intros)<;>first|exact .dq|omega|skip
   refine ah.step () hi trivial ?_;simp only [go_sem,seval,hs]
 ·intro _ hdx _;simp only [go_sem,seval,az,hdx,Kt]
theorem So {l:bn} (h:l.okB=true) (w c:Int):0<=gG ⟨3,w,c⟩ l.bs:=by
 simp only [bn.okB,cg] at h
 have hk:∀ b∈l.bs,kB b=true:=fun b hb=>by
  obtain ⟨i,hi,rfl⟩:=List.mem_iff_getElem.1 hb;have:=List.all_eq_true.1 h.1.2 i (List.mem_range.2 hi);rcases Nat.eq_zero_or_pos i with rfl | hp
  ·rwa [jD hi] at this
  ·obtain ⟨j,rfl⟩:∃ j,i=j+1:=⟨i-1,by omega⟩
   rw [iN hi,cg] at this;exact this.1
 clear h;generalize l.bs=bs at hk
 induction bs with
 | nil=>simp [gG]
 | cons b r ih =>
  simp only [gG];split
  ·rename_i hb;have h1:=hk b (by simp);simp only [V1,cg,beq_iff_eq] at hb;simp only [kB,cg,Bool.not_eq_true',decide_eq_false_iff_not] at h1
   have hf:b.bK.floor=0:=by
    have:=Sy b.bK;rw [h1.1,Bool.true_and] at this;have hk3:(b.bK.kind==3)=true:=by simp [bJ.bK,hb.1]
    rw [hk3,Bool.true_or] at this;simpa using this
   rw [hf] at h1;omega
  ·exact ih fun b hb=>hk b (by simp [hb])
def yc (l:bn) (c:Int) (m:ak):Int:=max (m.need-gG ⟨3,m.no,c⟩ l.bs) 0
def yA (l:bn) (c:Int) (m:ak):Int:=min (yc l c m) (max (gG ⟨2,m.no,c⟩ l.bs) 0)
def iM (l:bn) (c:Int) (m:ak):List aS:=if m.state==1 then bP ⟨2,m.no,c⟩ ⟨3,m.no,c⟩ (yA l c m) else []
def sB (l:bn) (c:Int) (m:ak):List aN:=if m.state==1&&decide (yA l c m < yc l c m) then [⟨m.no,c,yc l c m-yA l c m⟩] else []
def R9 (l:bn) (r:aq) (c:Int):Bool:=(l.okB&&r.okB)&&within c 0 2
def jc (l:bn) (r:aq) (c:Int):Int:=if l.okB&&r.okB then (if within c 0 2 then mX (r.ms.flatMap (iM l c)) else 3) else 14
def fq (l:bn) (r:aq) (c:Int):List aS:=if R9 l r c then iY (r.ms.flatMap (iM l c)) else []
def iz (l:bn) (r:aq) (c:Int):List aN:=if R9 l r c then r.ms.flatMap (sB l c) else []
theorem WH {r:aq} (h:r.okB=true):∀ m∈r.ms,m.ok=true:=by
 simp only [aq.okB,cg] at h;exact fun m hm=>qd h.1.1 m hm
theorem EH (l:bn) (r:aq) (c:Int) (hb:l.bs.length < 2 ^ 30) (hr:∀ b∈l.bs,b.dz) (h:r.gZ) (hm:r.ms.length < 2 ^ 27):Abs.Spec Tryz.prog 192 [] [.agg l.cells,.agg r.cells,.int .i64 c] [.own 3 ((iz l r c).map aN.cells)] (.bD [.sl 4 ((fq l r c).map aS.cells),.ref 0,.int .i64 (jc l r c)]):=by
 have c1:=ig l hb hr;have c2:=dK r h.small;have c3:=fH c;have cO:=fun a=>jQ l a hb
 have cM:=fun a b n=>iu a b n
 have hO:∀ a,l.okB=true->bS (gG a l.bs)=true:=fun a h=>yG h a
 have hF:=fun (h:l.okB=true) w=>So h w c
 have hJl:=dZ (f:=iM l c) (m:=2) (fun m=>by unfold iM;split<;>simp [bP]) r.ms;have cJ:=lZ (r.ms.flatMap (iM l c)) (by omega);simp only [bn.cells,aJ.cells] at c1 cO cM |-;simp only [aq.cells] at c2 |-;refine aU 93 3 [.tmp 6,.tmp 7,.tmp 8] mixed Tryz.func192 ?_;simp only [go_sem,seval];(with_reducible and_intros)<;>first|exact .dq|omega|skip
 refine aa.pure c1 ?_;cases b1:l.okB
 ·have e:jc l r c=14:=by simp [jc,b1]
  have e1:fq l r c=[]:=by simp [fq,R9,b1]
  have e2:iz l r c=[]:=by simp [iz,R9,b1]
  simp only [go_sem,seval,e,e1,e2]<;>simp
 simp only [go_sem,seval];(with_reducible and_intros)<;>first|exact .dq|omega|skip
 refine aa.pure c2 ?_;cases b2:r.okB
 ·have e:jc l r c=14:=by simp [jc,b2]
  have e1:fq l r c=[]:=by simp [fq,R9,b2]
  have e2:iz l r c=[]:=by simp [iz,R9,b2]
  simp only [go_sem,seval,e,e1,e2]<;>simp
 simp only [go_sem,seval];(with_reducible and_intros)<;>first|exact .dq|omega|skip
 refine aa.pure c3 ?_;cases b3:within c 0 2
 ·have e:jc l r c=3:=by simp [jc,b1,b2,b3]
  have e1:fq l r c=[]:=by simp [fq,R9,b3]
  have e2:iz l r c=[]:=by simp [iz,R9,b3]
  simp only [go_sem,seval,e,e1,e2]<;>simp
 have e:jc l r c=mX (r.ms.flatMap (iM l c)):=by simp [jc,b1,b2,b3]
 have e1:fq l r c=iY (r.ms.flatMap (iM l c)):=by simp [fq,R9,b1,b2,b3]
 have e2:iz l r c=r.ms.flatMap (sB l c):=by simp [iz,R9,b1,b2,b3]
 rw [e,e1,e2];have hO:=fun a=>hO a b1
 have hF:=hF b1;have hmo:=WH b2;clear e e1 e2 c1 c2 c3;simp only [go_sem,seval,aI];(with_reducible and_intros)<;>first|exact .dq|omega|skip
 refine aB.walk (S:=Unit) r.ms.length [2,3,4] [64,80] (fun i _=>[(11,.int .i64 i),(9,.ref 1152),(10,.ref 1360)]) (fun i _=>[(1152,.own 4 (((r.ms.take i).flatMap (iM l c)).map aS.cells)),(1360,.own 3 (((r.ms.take i).flatMap (sB l c)).map aN.cells))]) (fun _ _=>True) () trivial ?_ ?_ ?_
 ·simp only [go_sem,seval]<;>simp
 ·intro i _ hi hdi hwi _;have hm:=aD (c:=ak.cells) r.ms hi;have hli:(i:Int) < (r.ms.length:Int):=by omega
  have hlt:(r.ms.take i).length=i:=by simp;omega
  have hs1:=fA (iM l c) hi;have hs2:=fA (sB l c) hi;have hl1:=dZ (f:=iM l c) (m:=2) (fun m=>by unfold iM;split<;>simp [bP]) (r.ms.take i);have hl2:=dZ (f:=sB l c) (m:=1) (fun m=>by unfold sB;split<;>simp) (r.ms.take i);have hok:=hmo _ (List.getElem_mem hi);obtain ⟨L,hL⟩:=aO ((r.ms.take i).flatMap (iM l c));obtain ⟨M,hM⟩:=aO ((r.ms.take i).flatMap (sB l c));obtain ⟨x,hx⟩:=aO (r.ms[i]);rw [<- hx] at hs1 hs2 hm hok;rw [<- hL] at hs1 hl1;rw [<- hM] at hs2 hl2;rw [<- hL,<- hM];simp only [ak.ok,bS,cg,decide_eq_true_eq] at hok;simp only [ak.cells] at hm;clear cJ hL hM hmo;cases q1:x.state==1
  ·simp only [iM,sB,q1,Bool.false_and,ir,if_false,List.append_nil] at hs1 hs2;simp only [go_sem,seval,aI,hdi,hm,bne,q1,hwi];(with_reducible and_intros)<;>first|exact .dq|omega|skip
   refine ah.step () hi trivial ?_;simp only [go_sem,seval,hs1,hs2]
  have h1:=cR.1 (hO ⟨3,x.no,c⟩);have h2:=cR.1 (hO ⟨2,x.no,c⟩);have h3:=hF x.no;have cF:=cO ⟨3,x.no,c⟩;have cC:=cO ⟨2,x.no,c⟩;have cMv:=cM ⟨2,x.no,c⟩ ⟨3,x.no,c⟩ (yA l c x);have hla:yc l c x=max (x.need-gG ⟨3,x.no,c⟩ l.bs) 0:=rfl;have hfi:yA l c x=min (yc l c x) (max (gG ⟨2,x.no,c⟩ l.bs) 0):=rfl;simp only [iM,sB,q1,Bool.true_and,if_true] at hs1 hs2;obtain ⟨A,hA⟩:=aO (yc l c x);obtain ⟨F,hFd⟩:=aO (yA l c x);obtain ⟨f,hf⟩:=aO (gG ⟨3,x.no,c⟩ l.bs);obtain ⟨g,hg⟩:=aO (gG ⟨2,x.no,c⟩ l.bs);rw [<- hA,<- hFd] at hs2;rw [<- hFd] at hs1 cMv;rw [<- hA,<- hf] at hla;rw [<- hFd,<- hA,<- hg] at hfi;rw [<- hf] at cF h1 h3;rw [<- hg] at cC h2;have hw1:IntKind.wrap .i64 (x.need-f)=x.need-f:=bz (by omega) (by omega);have hw2:IntKind.wrap .i64 (A-F)=A-F:=bz (by omega) (by omega);have eA:max (x.need-f) 0=A:=hla.symm;have eF:min A (max g 0)=F:=hfi.symm;have hml:(bP ⟨2,x.no,c⟩ ⟨3,x.no,c⟩ F).length=2:=rfl;obtain ⟨V,hV⟩:=aO (bP ⟨2,x.no,c⟩ ⟨3,x.no,c⟩ F);rw [<- hV] at hs1 cMv hml;clear cO cM hA hFd hf hg hV hO hF;simp only [go_sem,seval,aI,hdi,hm,bne,q1];(with_reducible and_intros)<;>first|exact .dq|omega|skip
  refine aa.pure cF ?_;simp only [go_sem,seval,hw1,eA];(with_reducible and_intros)<;>first|exact .dq|omega|skip
  refine aa.pure cC ?_;simp only [go_sem,seval,eF];(with_reducible and_intros)<;>first|exact .dq|omega|skip
  refine aa.pure cMv ?_
  by_cases q2:F < A
  ·have d:decide (F < A)=true:=decide_eq_true q2;rw [d,if_pos rfl] at hs2;simp only [go_sem,seval,d,hw2,hwi,aI,hml];(with_reducible and_intros)<;>first|exact .dq|omega|skip
   refine ah.step () hi trivial ?_;simp only [go_sem,seval,hs1,hs2]<;>simp
  ·have d:decide (F < A)=false:=decide_eq_false q2;rw [d,if_neg (by simp),List.append_nil] at hs2;simp only [go_sem,seval,d,hwi,aI,hml];(with_reducible and_intros)<;>first|exact .dq|omega|skip
   refine ah.step () hi trivial ?_;simp only [go_sem,seval,hs1,hs2]<;>simp
 ·intro _ hdx _;simp only [go_sem,seval,aI,hdx,List.take_length];(with_reducible and_intros)<;>first|exact .dq|omega|skip
  refine aa.gen [1152] [] false (by simp) ?_;simp only [go_sem,seval];refine bg.intro cJ ?_;simp only [go_sem,seval]
theorem AD (l:bn) (r:aq) (c:Int) (hb:l.bs.length < 2 ^ 30) (hr:∀ b∈l.bs,b.dz) (h:r.gZ) (hm:r.ms.length < 2 ^ 27):Abs.Spec Tryz.prog 192 [] [.agg l.cells,.agg r.cells,.int .i64 c] [] (.bD [.sl 4 ((fq l r c).map aS.cells),.sl 3 ((iz l r c).map aN.cells),.int .i64 (jc l r c)]):=by
 refine Spec.frozen (EH l r c hb hr h hm) [0] rfl ?_;intro r;rcases r with _ | r<;>rfl
theorem zb (k w c:Int):Abs.Spec Tryz.prog 249 [] [.int .i64 k,.int .i64 w,.int .i64 c] [] (.agg [.int .i64 k,.int .i64 w,.int .i64 c]):=by
 refine aU 11 3 [.cell 6 120] mixed Tryz.func249 ?_;simp only [go_sem,seval]
 all_goals (with_reducible and_intros)<;>first|exact .dq|omega|skip
theorem rQ (b:aG) (g:List aA) (hb:b.small) (hr:∀ p∈b.qs,p.dz) (hg:g.length < 2 ^ 29):Abs.Spec Tryz.prog 233 [] [.agg b.cells,.sl 4 (g.map aA.cells)] [] (.bD [.agg (rX b g).cells,.int .i64 (jq b g)]):=by
 refine Spec.frozen (qQ b g hb hr hg) [0,1] rfl ?_;intro r;rcases r with _ | _ | r<;>rfl
def Ks (s:af) (w:Int):Int:=if bA s then (if bq s.aj w=0 then 10 else if bq s.aj w=2 then 0 else 14) else 14
theorem KG (s:af) (w:Int) (hs:s.small) (hr:s.dz):Abs.Spec Tryz.prog 247 [] [.agg s.cells,.int .i64 w] [] (.int .i64 (Ks s w)):=by
 have c1:=gC s hs hr;have c2:=l7 s w hs.aj.small;simp only [af.cells,Ks] at c1 c2 |-;obtain ⟨t,ht⟩:=aO (bq s.aj w);rw [<- ht] at c2 |-;refine aU 15 2 [.tmp 4] mixed Tryz.func247 ?_;simp only [go_sem,seval];(with_reducible and_intros)<;>first|exact .dq|omega|skip
 refine aa.pure c1 ?_;cases b1:bA s
 ·simp only [go_sem,seval,b1]
 simp only [go_sem,seval,b1];(with_reducible and_intros)<;>first|exact .dq|omega|skip
 refine aa.pure c2 ?_
 by_cases b2:t=0
 ·rw [b2];simp only [go_sem,seval]
  all_goals (with_reducible and_intros)<;>first|exact .dq|omega|skip
 by_cases b3:t=2
 ·rw [b3];simp only [go_sem,seval]
  all_goals (with_reducible and_intros)<;>first|exact .dq|omega|skip
 have d2:(t==0)=false:=by simpa using b2
 have d3:(t==2)=false:=by simpa using b3
 rw [if_neg b2,if_neg b3];simp only [go_sem,seval,d2,d3]
 all_goals (with_reducible and_intros)<;>first|exact .dq|omega|skip
def Ca (s:af) (w n:Int) (b:bp):Bool:=(b.who==w&&b.inst==n)&&bq s.aj b.src==1
def gR (s:af) (w n:Int) (l:List bp):List bp:=l.flatMap fun b=>if Ca s w n b then [b] else []
def dU (p:Int) (f:dO):dO:={ f with aR:=p }
def mq (b:aG) (w n:Int) (long:Bool) (f:List dO):aG × Int:=if jK f=0 then (rX b (kg w n long f),jq b (kg w n long f)) else (b,jK f)
def pS (b:aG) (w n p:Int) (long:Bool) (rest:Int):aG × Int:=if nE b w n rest=0 then mq b w n long ((nR b w n rest).map (dU p)) else (b,nE b w n rest)
def n7 (s:af) (b:aG) (w n q:Int):aG × Int:=
 if nX (aV s.aj n) then
  (if qy q (gR s w n s.aT)=0 then
   (if (mq b w n (decide (0 < q)) (jN q (gR s w n s.aT)).1).2=0/\(jN q (gR s w n s.aT)).2≠0 then
    pS (mq b w n (decide (0 < q)) (jN q (gR s w n s.aT)).1).1 w n (dR (aV s.aj n)) (decide (0 < q)) (jN q (gR s w n s.aT)).2
   else mq b w n (decide (0 < q)) (jN q (gR s w n s.aT)).1)
  else (b,qy q (gR s w n s.aT)))
 else (b,20)
structure aG.fY (b:aG):Prop where
 small:b.small
 short:b.qs.length < 2 ^ 20
 dz:∀ p∈b.qs,p.dz
 ok:∀ p∈b.qs,(-1099511627776<=p.aX/\p.aX<=1099511627776)/\bS p.cost=true
theorem E6 {b:aG} (hb:b.fY) (g:List aA):(rX b g).fY:=by
 unfold rX;split
 ·rename_i h;have hok:=(tG h).2.2;refine ⟨⟨hb.small.1,?_⟩,?_,Nb h,?_⟩
  ·have:=Au b g 16
   show (vS b g 16).length < _
   omega
  ·have:=Au b g 16
   show (vS b g 16).length < _
   omega
  ·intro p hp;obtain ⟨k,m,hk,hm,hp⟩:=wv hp;have:=Cr hok hk hm;simp only [Co,within,cg,decide_eq_true_eq] at this;unfold EJ at hp;split at hp
   ·cases hp
   ·obtain rfl:=List.mem_singleton.1 hp;exact ⟨this.2.2,this.2.1⟩
 ·exact ⟨⟨by simp,by simp⟩,by simp,by simp,by simp⟩
theorem u7 {b:aG} (hb:b.fY) (w n:Int) (long:Bool) (f:List dO):(mq b w n long f).1.fY:=by
 unfold mq;split
 ·exact E6 hb _
 ·exact hb
theorem Lm {b:aG} (hb:b.fY) (w n p:Int) (long:Bool) (rest:Int):(pS b w n p long rest).1.fY:=by
 unfold pS;split
 ·exact u7 hb _ _ _ _
 ·exact hb
theorem L3 {s:af} {b:aG} (hb:b.fY) (w n q:Int):(n7 s b w n q).1.fY:=by
 unfold n7;split
 ·split
  ·split
   ·exact Lm (u7 hb _ _ _ _) _ _ _ _ _
   ·exact u7 hb _ _ _ _
  ·exact hb
 ·exact hb
theorem Fq (w n:Int) (long:Bool) (f:List dO):(kg w n long f).length<=2*f.length:=by
 unfold kg;split
 ·exact dZ (f:=uk w n long) (fun f=>by simp [uk]) f
 ·simp
theorem Pn (b:aG) (w n k:Int):(nR b w n k).length<=b.qs.length:=by
 unfold nR;split
 ·have h1:=kE (f:=rF (yI (posOf w n b.qs).aX n b.qs) (fN k (o7 (posOf w n b.qs).aX n b.qs))) (m:=1) (fun i=>by unfold rF;split<;>simp) (fN k (o7 (posOf w n b.qs).aX n b.qs)).length;have h2:=qP k (o7 (posOf w n b.qs).aX n b.qs);have h3:(o7 (posOf w n b.qs).aX n b.qs).length<=b.qs.length:=bY _ _ _;simp only [Kt];omega
 ·simp
theorem AV (s:af) (w n:Int) (l:List bp):(gR s w n l).length<=l.length:=by
 have:=dZ (f:=fun b=>if Ca s w n b then [b] else []) (m:=1) (fun b=>by split<;>simp) l;simpa [gR] using this
theorem Ow (q:Int) (l:List bp):(jN q l).1.length<=l.length:=by
 unfold jN;split
 ·refine Nat.le_trans (Fj _ _) ?_;rw [zL,AY];simp
 ·simp
theorem HK (s:af) (b:aG) (w n q:Int) (hs:s.small) (hb:b.fY) (hbl:s.aT.length < 2 ^ 20):Abs.Spec Tryz.prog 248 [] [.agg s.cells,.agg b.cells,.agg [.int .i64 w,.int .i64 n],.int .i64 q] [] (.bD [.agg (n7 s b w n q).1.cells,.int .i64 (n7 s b w n q).2]):=by
 have c1:=dc s.aj n hs.aj.small;have cS:=fun w=>l7 s w hs.aj.small
 have c2:=uP (aV s.aj n);have ep:(if (aV s.aj n).set==0 then (aV s.aj n).aR else (aV s.aj n).set)=dR (aV s.aj n):=rfl;have eh:(!((aV s.aj n).set==0&&(aV s.aj n).aR==0))=nX (aV s.aj n):=rfl;rw [ep,eh] at c2;obtain ⟨x,hx⟩:=aO (aV s.aj n);have hbo:=AV s w n s.aT;have c3:=GN q (gR s w n s.aT) (by omega);have hfl:=Ow q (gR s w n s.aT);obtain ⟨R,hR⟩:=aO (n7 s b w n q);have hR0:=hR;simp only [n7] at hR;obtain ⟨B,hB⟩:=aO (gR s w n s.aT);rw [<- hR0];rw [<- hx] at c1 c2 hR;rw [<- hB] at c3 hfl hbo hR;obtain ⟨f,hf⟩:=aO ((jN q B).1);obtain ⟨rest,hre⟩:=aO ((jN q B).2);rw [<- hf] at c3 hfl hR;rw [<- hre] at c3 hR;have c4:=sx w n (decide (0 < q)) f (by omega);have c5:=rQ b (kg w n (decide (0 < q)) f) hb.small hb.dz (by have:=Fq w n (decide (0 < q)) f;omega);obtain ⟨g,hg⟩:=aO (kg w n (decide (0 < q)) f);have hA:mq b w n (decide (0 < q)) f=if jK f=0 then (rX b g,jq b g) else (b,jK f):=by rw [hg];rfl
 rw [hA] at hR;rw [<- hg] at c4 c5;have hb1:=E6 hb g;obtain ⟨b1,hb1d⟩:=aO (rX b g);rw [<- hb1d] at hR c5 hb1;obtain ⟨p,hp⟩:=aO (dR x);rw [<- hp] at c2 hR;obtain ⟨long,hlong⟩:=aO (decide (0 < q));rw [<- hlong] at c4 hR;have c6:=Iw b1 w n rest hb1.small hb1.dz hb1.short;have hFl:=Pn b1 w n rest;have hqs:=hb1.short;have hR2:pS b1 w n p long rest=if nE b1 w n rest=0 then mq b1 w n long ((nR b1 w n rest).map (dU p)) else (b1,nE b1 w n rest):=rfl
 obtain ⟨F,hF⟩:=aO (nR b1 w n rest);rw [<- hF] at c6 hFl hR2;have c7:=sx w n long (F.map (dU p)) (by rw [aI];omega);have c8:=rQ b1 (kg w n long (F.map (dU p))) hb1.small hb1.dz (by have:=Fq w n long (F.map (dU p));rw [aI] at this;omega);have hR3:mq b1 w n long (F.map (dU p))=if jK (F.map (dU p))=0 then (rX b1 (kg w n long (F.map (dU p))),jq b1 (kg w n long (F.map (dU p)))) else (b1,jK (F.map (dU p))):=rfl
 rw [hR3] at hR2;obtain ⟨g2,hg2⟩:=aO (kg w n long (F.map (dU p)));rw [<- hg2] at c7 c8 hR2
 have hR4:R=if nX x=true then (if qy q B=0 then (if jK f=0 then (if jq b g=0/\rest≠0 then pS b1 w n p long rest else (b1,jq b g)) else (b,jK f)) else (b,qy q B)) else (b,20):=by
  rw [hR];by_cases h:jK f=0<;>simp [h]
 rw [hR2] at hR4;clear hR;have hR:=hR4;clear hR4;obtain ⟨b2,hb2⟩:=aO (rX b1 g2);obtain ⟨e1,he1⟩:=aO (jK f);obtain ⟨e2,he2⟩:=aO (jq b g);obtain ⟨e3,he3⟩:=aO (nE b1 w n rest);obtain ⟨e4,he4⟩:=aO (jK (F.map (dU p)));obtain ⟨e5,he5⟩:=aO (jq b1 g2);obtain ⟨e0,he0⟩:=aO (qy q B);rw [<- hb2,<- he5] at c8;rw [<- he4] at c7;rw [<- he3] at c6;rw [<- he2] at c5;rw [<- he1] at c4;rw [<- he0] at c3;rw [<- he0,<- he1,<- he2,<- he3,<- he4,<- he5,<- hb2] at hR;clear hR0 hx ep eh hf hre hA hg hb1d hp hR2 hR3 hF hg2 hb2 he1 he2 he3 he4 he5 he0 hb1;simp only [aq.cells,ay.cells] at c1 c2;simp only [af.cells] at cS |-;simp only [aG.cells] at c5 c6 c8 |-;refine aU 158 4 [.cell 8 33,.tmp 9] mixed Tryz.func248 ?_;simp only [go_sem,seval];(with_reducible and_intros)<;>first|exact .dq|omega|skip
 refine aa.pure c1 ?_;simp only [go_sem,seval];(with_reducible and_intros)<;>first|exact .dq|omega|skip
 refine aa.pure c2 ?_;cases q1:nX x
 ·rw [q1,if_neg (by simp)] at hR;rw [hR];simp only [go_sem,seval,q1]
  all_goals (with_reducible and_intros)<;>first|exact .dq|omega|skip
 rw [q1,if_pos rfl] at hR;clear c1 c2;simp only [go_sem,seval,q1];(with_reducible and_intros)<;>first|exact .dq|omega|skip
 have hcut:∀ l,gR s w n l=l.flatMap fun b=>if Ca s w n b then [b] else []:=fun l=>rfl
 refine aB.walk (S:=Unit) s.aT.length [3,4,5,6,8,12] [80,96,112,144] (fun i _=>[(15,.int .i64 i),(14,.ref 1360)]) (fun i _=>[(1360,.own 5 ((gR s w n (s.aT.take i)).map bp.cells))]) (fun _ _=>True) () trivial ?_ ?_ ?_
 ·simp only [go_sem,seval]<;>simp [gR]
 ·intro i _ hi hdi hwi _;have hm:=aD (c:=bp.cells) s.aT hi;have hli:(i:Int) < (s.aT.length:Int):=by omega
  have hs1:gR s w n (s.aT.take (i+1))=gR s w n (s.aT.take i)++_:=fA _ hi;have hl1:=AV s w n (s.aT.take i);have hlt:(s.aT.take i).length=i:=by simp;omega
  obtain ⟨y,hy⟩:=aO (s.aT[i]);obtain ⟨L,hL⟩:=aO (gR s w n (s.aT.take i));rw [<- hy] at hm hs1;rw [<- hL] at hs1 hl1 |-;have cS:=cS y.src;simp only [Ca] at hs1;simp only [bp.cells] at hm;clear c3 c4 c5 c6 c7 c8 hR;cases k1:y.who==w
  ·simp only [k1,Bool.false_and,ir,if_false,List.append_nil] at hs1;simp only [go_sem,seval,aI,hdi,hm,k1,hwi];(with_reducible and_intros)<;>first|exact .dq|omega|skip
   refine ah.step () hi trivial ?_;simp only [go_sem,seval,hs1]
  cases k2:y.inst==n
  ·simp only [k1,k2,Bool.and_false,Bool.false_and,ir,if_false,List.append_nil] at hs1;simp only [go_sem,seval,aI,hdi,hm,k1,k2,hwi];(with_reducible and_intros)<;>first|exact .dq|omega|skip
   refine ah.step () hi trivial ?_;simp only [go_sem,seval,hs1]
  simp only [go_sem,seval,aI,hdi,hm,k1,k2];(with_reducible and_intros)<;>first|exact .dq|omega|skip
  refine aa.pure cS ?_;cases k3:bq s.aj y.src==1
  ·simp only [k1,k2,k3,Bool.and_false,ir,if_false,List.append_nil] at hs1;simp only [go_sem,seval,k3,hwi];(with_reducible and_intros)<;>first|exact .dq|omega|skip
   refine ah.step () hi trivial ?_;simp only [go_sem,seval,hs1]
  simp only [k1,k2,k3,Bool.and_self,if_true] at hs1;simp only [go_sem,seval,k3,aI,hm,hwi];(with_reducible and_intros)<;>first|exact .dq|omega|skip
  refine ah.step () hi trivial ?_;simp only [go_sem,seval,hs1]<;>simp
 intro _ hdx _;rw [List.take_length,<- hB];clear cS hcut;simp only [go_sem,seval,aI,hdx];(with_reducible and_intros)<;>first|exact .dq|omega|skip
 refine aa.gen [1360] [] false (by simp) ?_;simp only [go_sem,seval];refine bg.intro c3 ?_;clear c3 hdx
 by_cases k0:e0=0
 case neg =>
  have d:(e0==0)=false:=by simpa using k0
  rw [if_neg k0] at hR;rw [hR];simp only [go_sem,seval,bne,d]
  all_goals (with_reducible and_intros)<;>first|exact .dq|omega|skip
 rw [if_pos k0] at hR;rw [k0];simp only [go_sem,seval];(with_reducible and_intros)<;>first|exact .dq|omega|skip
 rw [<- hlong];refine aa.pure c4 ?_;clear c4
 by_cases k1:e1=0
 case neg =>
  have d:(e1==0)=false:=by simpa using k1
  rw [if_neg k1] at hR;rw [hR];simp only [go_sem,seval,bne,d]
  all_goals (with_reducible and_intros)<;>first|exact .dq|omega|skip
 rw [if_pos k1] at hR;rw [k1];simp only [go_sem,seval];(with_reducible and_intros)<;>first|exact .dq|omega|skip
 refine aa.pure c5 ?_;clear c5
 by_cases k2:e2=0
 case neg =>
  have d:(e2==0)=false:=by simpa using k2
  rw [if_neg (by rintro ⟨h,_⟩;exact k2 h)] at hR;rw [hR];simp only [go_sem,seval,bne,d]
  all_goals (with_reducible and_intros)<;>first|exact .dq|omega|skip
 by_cases k3:rest=0
 ·rw [if_neg (by rintro ⟨_,h⟩;exact h k3)] at hR;rw [hR,k3,k2];simp only [go_sem,seval,bne]
  all_goals (with_reducible and_intros)<;>first|exact .dq|omega|skip
 have d3:(rest==0)=false:=by simpa using k3
 rw [if_pos ⟨k2,k3⟩] at hR;rw [k2];simp only [go_sem,seval,bne,d3];(with_reducible and_intros)<;>first|exact .dq|omega|skip
 refine aa.gen [] [] false (by simp) ?_;simp only [go_sem,seval];refine bg.intro c6 ?_;clear c6;simp only [go_sem,seval,aI];(with_reducible and_intros)<;>first|exact .dq|omega|skip
 refine aB.walk (S:=Unit) F.length [3,5,6,8,12,18] [96,112,144] (fun i _=>[(20,.int .i64 i),(16,.ref 272)]) (fun i _=>[(272,.own 3 ((oz (dU p) F i).map dO.cells))]) (fun _ _=>True) () trivial ?_ ?_ ?_
 ·simp only [go_sem,seval,Fg]<;>simp
 ·intro i _ hi hdi hwi _;have hlen:=sE (dU p) F i;have hm:=aD (c:=dO.cells) (oz (dU p) F i) (i:=i) (by omega);have hset:=CG (dU p) hi;rw [HE (dU p) hi] at hm;obtain ⟨y,hy⟩:=aO (F[i]);obtain ⟨M,hM⟩:=aO (oz (dU p) F i);rw [<- hy] at hm hset;rw [<- hM] at hm hset hlen |-;have hset2:M.set i { y with aR:=p }=oz (dU p) F (i+1):=hset;have hli:(i:Int) < (F.length:Int):=by omega
  simp only [dO.cells] at hm;clear c7 c8 hR;simp only [go_sem,seval,aI,hlen,hdi,hm,hwi];(with_reducible and_intros)<;>first|exact .dq|omega|skip
  all_goals first
   | omega
   | (refine ah.step () hi trivial ?_
      simp only [go_sem,seval,<- hset2,List.map_set])
 intro _ hdx _;have hlen:=sE (dU p) F F.length;rw [Cf];rw [Cf,aI] at hlen
 by_cases k4:e3=0
 case neg =>
  have d:(e3==0)=false:=by simpa using k4
  rw [if_neg k4] at hR;rw [hR];simp only [go_sem,seval,aI,hdx,d]
  all_goals (with_reducible and_intros)<;>first|exact .dq|omega|skip
 rw [if_pos k4] at hR;rw [k4];simp only [go_sem,seval,aI,hdx];(with_reducible and_intros)<;>first|exact .dq|omega|skip
 refine aa.gen [272] [] false (by simp) ?_;rw [<- hlong];simp only [go_sem,seval];refine bg.intro c7 ?_;clear c7
 by_cases k5:e4=0
 case neg =>
  have d:(e4==0)=false:=by simpa using k5
  rw [if_neg k5] at hR;rw [hR];simp only [go_sem,seval,d]
  all_goals (with_reducible and_intros)<;>first|exact .dq|omega|skip
 rw [if_pos k5] at hR;rw [k5];simp only [go_sem,seval];(with_reducible and_intros)<;>first|exact .dq|omega|skip
 refine aa.pure c8 ?_;rw [hR];simp only [go_sem,seval]
 all_goals (with_reducible and_intros)<;>first|exact .dq|omega|skip
def dy (s:af) (w:Int):List Int:=pick (fun x=>!(x==w)) (fun x=>x) (mN s.aj [1])
theorem vA (r:aq) (ss:List Int):(mN r ss).length<=r.ms.length:=bY _ _ _
theorem zq (s:af) (w:Int):(dy s w).length<=s.aj.ms.length:=Nat.le_trans (bY _ _ _) (vA _ _)
theorem zN (s:af) (w:Int) (hs:s.small):Abs.Spec Tryz.prog 252 [] [.agg s.cells,.int .i64 w] [.own 1 (ints (dy s w))] (.ref 0):=by
 have c1:=uF s.aj [1] hs.aj (by simp);have hl:=vA s.aj [1];have hml:=hs.aj.1;obtain ⟨l,hld⟩:=aO (mN s.aj [1]);simp only [dy];rw [<- hld] at c1 hl |-;simp only [aq.cells,ints,List.map_cons,List.map_nil] at c1;have hE:(l.map fun x=>[D.int .i64 x])=ints l:=rfl;rw [hE] at c1;simp only [af.cells];clear hld hE;refine aU 32 2 [.tmp 4] mixed Tryz.func252 ?_;simp only [go_sem,seval];(with_reducible and_intros)<;>first|exact .dq|omega|skip
 refine aa.gen [176] [] false (by simp) ?_;simp only [go_sem,seval];refine bg.intro c1 ?_;simp only [go_sem,seval,az];(with_reducible and_intros)<;>first|exact .dq|omega|skip
 refine aB.walk (S:=Unit) l.length [1,6] [] (fun i _=>[(7,.int .i64 i),(5,.ref 496)]) (fun i _=>[(496,.own 1 (ints (pick (fun x=>!(x==w)) (fun x=>x) (l.take i))))]) (fun _ _=>True) () trivial ?_ ?_ ?_
 ·simp only [go_sem,seval]<;>simp [pick,ints]
 ·intro i _ hi hdi hwi _;have hm:=ints_at l hi;have hst:=fJ (fun x:Int=>!(x==w)) (fun x=>x) hi;have hlen:=bY (fun x:Int=>!(x==w)) (fun x=>x) (l.take i);have hlt:(l.take i).length=i:=by simp;omega
  have hli:(i:Int) < (l.length:Int):=by omega
  obtain ⟨L,hL⟩:=aO (pick (fun x:Int=>!(x==w)) (fun x=>x) (l.take i));obtain ⟨x,hx⟩:=aO (l[i]);rw [<- hx] at hm hst;rw [<- hL] at hst hlen |-;clear c1;cases q:x==w
  ·simp only [q,Bool.not_false,if_true] at hst;simp only [go_sem,seval,az,hdi,hm,bne,q,hwi];(with_reducible and_intros)<;>first|exact .dq|omega|skip
   refine ah.step () hi trivial ?_;simp only [go_sem,seval,hst]
  ·simp only [q,Bool.not_true,ir,if_false,List.append_nil] at hst;simp only [go_sem,seval,az,hdi,hm,bne,q,hwi];(with_reducible and_intros)<;>first|exact .dq|omega|skip
   refine ah.step () hi trivial ?_;simp only [go_sem,seval,hst]
 ·intro _ hdx _;simp only [go_sem,seval,az,hdx,List.take_length]
theorem pT (s:af) (w:Int) (hs:s.small):Abs.Spec Tryz.prog 252 [] [.agg s.cells,.int .i64 w] [] (.sl 1 (ints (dy s w))):=by
 refine Spec.frozen (zN s w hs) [0] rfl ?_;intro r;rcases r with _ | r<;>rfl
def Gi (s:af) (w c:Int) (p:eW):Bool:=p.who==w&&(lu s.aj p.bF).b==c
def wz (s:af) (p:eW):Int:=p.units*(lu s.aj p.bF).c
def zf (s:af) (w c:Int):List Int:=pick (Gi s w c) (wz s) s.ps
def sP (s:af) (w c:Int):Int:=aC (zf s w c)
def sI (s:af) (w c:Int):Int:=if bS (sP s w c) then sP s w c else 0
theorem Nt {r:aq} (h:r.okB=true) (n:Int):0<=(lu r n).c/\(lu r n).c<=1073741824:=by
 simp only [aq.okB,cg] at h;refine xG (R:=fun a:av=>0<=a.c/\a.c<=1073741824) (by decide) fun a ha=>?_
 have:=qd h.2 a ha;simp only [av.ok,within,cg,decide_eq_true_eq] at this;omega
theorem Pd {s:af} (h1:s.aj.okB=true) (h2:gj s.ps=true):∀ p∈s.ps,0<=wz s p/\wz s p<=1180591620717411303424:=fun p hp=>by
 have ha:=Nt h1 p.bF;have hu:=((gM.1 h2).1 p hp).2;have h3:=fI (a:=p.units) (b:=(lu s.aj p.bF).c) (A:=1099511627776) (B:=1073741824) (by omega) (by omega);have h4:=Int.mul_nonneg (show 0<=p.units by omega) ha.1;simp only [wz];omega
theorem N5 {s:af} (h1:s.aj.okB=true) (h2:gj s.ps=true) (hl:s.ps.length < 2 ^ 30) (w c:Int):xJ (sP s w c)=true/\∀ n∈zf s w c,xJ n=true:=by
 have hr:∀ n∈zf s w c,0<=n/\n<=1180591620717411303424:=kj fun p hp=>Pd h1 h2 p hp
 have hs:=yL (B:=1180591620717411303424) (by decide) hr;have hlen:(zf s w c).length<=s.ps.length:=bY _ _ _;constructor
 ·have e:sP s w c=aC (zf s w c):=rfl;rw [e];simp only [xJ,cg,decide_eq_true_eq];constructor<;>omega
 ·intro n hn;have:=hr n hn;simp only [xJ,cg,decide_eq_true_eq];omega
theorem w6 (s:af) (w c:Int) (hs:s.small) (h1:s.aj.okB=true) (h2:gj s.ps=true):Abs.Spec Tryz.prog 250 [] [.agg s.cells,.int .i64 w,.int .i64 c] [] (.bD [.int .i64 (sI s w c),.bool (bS (sP s w c))]):=by
 have cH:∀ n,Abs.Spec Tryz.prog 159 [] [.agg s.aj.cells,.int .i64 n] [] (.bD [.agg (lu s.aj n).cells,.bool (jr s.aj n)]):=fun n=>kJ s.aj n hs.aj.small
 obtain ⟨hin,hall⟩:=N5 h1 h2 hs.ps w c;have hll:(zf s w c).length<=s.ps.length:=bY _ _ _;have hpl:=hs.ps;have cSum:=jO (zf s w c) (by omega) hall;have cI:=jR (sP s w c);have eS:aC (zf s w c)=sP s w c:=rfl;rw [eS,hin,if_pos rfl] at cSum;have eN:(if bS (sP s w c) then sP s w c else 0)=sI s w c:=rfl;rw [eN] at cI;have hast:=fun n=>Nt h1 n
 have hu:=fun p hp=>((gM.1 h2).1 p hp).2
 simp only [wd] at cSum cI;simp only [af.cells];simp only [aq.cells] at cH;clear h1 h2 hin hall eS eN;refine aU 76 3 [.tmp 6,.tmp 7] mixed Tryz.func250 ?_;simp only [go_sem,seval,nF];refine aB.walk (S:=Unit) s.ps.length [1,2,3] [64] (fun i _=>[(9,.int .i64 i),(8,.ref 976)]) (fun i _=>[(976,.own 2 (qz (pick (Gi s w c) (wz s) (s.ps.take i))))]) (fun _ _=>True) () trivial ?_ ?_ ?_
 ·simp only [go_sem,seval]<;>simp [pick,qz]
 ·intro i _ hi hdi hwi _;have hm:=jX s.ps hi;have hs1:=Fu (Gi s w c) (wz s) hi;have hlen:=bY (Gi s w c) (wz s) (s.ps.take i);have hlt:(s.ps.take i).length=i:=by simp;omega
  have hli:(i:Int) < (s.ps.length:Int):=by omega
  have hui:=hu _ (List.getElem_mem hi);obtain ⟨L,hL⟩:=aO (pick (Gi s w c) (wz s) (s.ps.take i));obtain ⟨x,hx⟩:=aO (s.ps[i]);rw [<- hx] at hm hs1 hui;rw [<- hL] at hs1 hlen |-;have cHi:=cH x.bF;have hai:=hast x.bF;simp only [Gi,wz] at hs1;obtain ⟨a,ha⟩:=aO (lu s.aj x.bF);rw [<- ha] at cHi hai;simp only [<- ha] at hs1;have cT:=lq x.units a.c ⟨by omega,by omega⟩ ⟨by omega,by omega⟩;have hwl:(qz L).length<=i:=by rw [xH];omega
  simp only [av.cells] at cHi;simp only [wd] at cT;clear cH cSum cI hast hu;simp only [go_sem,seval,nF,hdi,hm];(with_reducible and_intros)<;>first|exact .dq|omega|skip
  refine aa.pure cHi ?_;cases q1:x.who==w
  ·simp only [q1,Bool.false_and,ir,if_false,List.append_nil] at hs1;simp only [go_sem,seval,nF,hm,q1,hwi];(with_reducible and_intros)<;>first|exact .dq|omega|skip
   refine ah.step () hi trivial ?_;simp only [go_sem,seval,hs1]
  cases q2:a.b==c
  ·simp only [q1,q2,Bool.and_false,ir,if_false,List.append_nil] at hs1;simp only [go_sem,seval,nF,hm,q1,q2,hwi];(with_reducible and_intros)<;>first|exact .dq|omega|skip
   refine ah.step () hi trivial ?_;simp only [go_sem,seval,hs1]
  simp only [q1,q2,Bool.and_self,if_true] at hs1;simp only [go_sem,seval,nF,hm,q1,q2];(with_reducible and_intros)<;>first|exact .dq|omega|skip
  refine aa.pure cT ?_;simp only [go_sem,seval,hwi];(with_reducible and_intros)<;>first|exact .dq|omega|skip
  refine ah.step () hi trivial ?_;simp only [go_sem,seval,hs1]<;>simp [qz,wd]
 ·intro _ hdx _;simp only [go_sem,seval,nF,hdx,List.take_length];(with_reducible and_intros)<;>first|exact .dq|omega|skip
  refine aa.gen [] [] true (by simp) ?_;simp only [go_sem,seval];refine bg.intro cSum ?_;simp only [go_sem,seval];(with_reducible and_intros)<;>first|exact .dq|omega|skip
  refine aa.pure cI ?_;simp only [go_sem,seval]
  all_goals (with_reducible and_intros)<;>first|exact .dq|omega|skip
def gT (s:af) (w:Int) (b:aG) (n:Int):aG × Int:=if (posOf w n b.qs).aX==0 then (b,0) else n7 s b w n (posOf w n b.qs).aX
def mj (s:af) (w:Int):Nat->Nat->aG->aG × Int
 | 0,_,b=>(b,0)
 | m+1,i,b=>if (gT s w b ((i:Int)+1)).2=0 then mj s w m (i+1) (gT s w b ((i:Int)+1)).1 else ((gT s w b ((i:Int)+1)).1,(gT s w b ((i:Int)+1)).2)
def mU (w:Int) (l:List aA):List aA:=l.flatMap fun p=>if p.who==w then [] else [p]
def LY (s:af) (w:Int) (p:aA):List aN:=if p.who==w then [⟨w,(aV s.aj p.inst).cur,gP p (aV s.aj p.inst).mult 0⟩] else []
def oG (s:af) (w:Int) (l:List aA):List aN:=l.flatMap (LY s w)
def zS (s:af) (w:Int) (l:List aA):Bool:=l.all fun p=>!(p.who==w)||bS (gP p (aV s.aj p.inst).mult 0)
def og (s:af) (w:Int):Int:=if Ks s w=0 then (if (mj s w 8 0 s.book).2=0 then (if zS s w (mj s w 8 0 s.book).1.qs then 0 else 1) else (mj s w 8 0 s.book).2) else Ks s w
def oC (s:af) (w:Int):aG:=if og s w=0 then ⟨(mj s w 8 0 s.book).1.next,(mj s w 8 0 s.book).1.ts,mU w (mj s w 8 0 s.book).1.qs⟩ else ⟨0,[],[]⟩
def p9 (s:af) (w:Int):List aN:=if og s w=0 then oG s w (mj s w 8 0 s.book).1.qs else []
theorem qE {s:af} {w:Int} {b:aG} (hb:b.fY) (n:Int):(gT s w b n).1.fY:=by
 unfold gT;split
 ·exact hb
 ·exact L3 hb _ _ _
theorem yF {s:af} {w:Int}:∀ (m i:Nat) {b:aG},b.fY->(mj s w m i b).1.fY
 | 0,_,_,hb=>hb
 | m+1,i,b,hb=>by
  simp only [mj];split
  ·exact yF m _ (qE hb _)
  ·exact qE hb _
theorem uf {s:af} {w:Int} (h:Ks s w=0):bA s=true/\bq s.aj w=2:=by
 unfold Ks at h;split at h
 ·split at h
  ·cases h
  ·split at h
   ·exact ⟨by assumption,by assumption⟩
   ·cases h
 ·cases h
theorem oN {s:af} (h:bA s=true):s.aj.okB=true/\s.book.okB=true/\s.bE.okB=true/\gj s.ps=true/\lV bR bN s.calls=true:=by
 simp only [bA,cg] at h;exact ⟨h.2.1,h.2.2.1,h.2.2.2.1,h.2.2.2.2.1,h.2.2.2.2.2.1⟩
theorem Qj {r:aq} (h:r.okB=true) (n:Int):0<=(aV r n).mult/\(aV r n).mult<=1024:=by
 simp only [aq.okB,cg] at h;refine xG (R:=fun x:ay=>0<=x.mult/\x.mult<=1024) (by decide) fun x hx=>?_
 have:=qd h.1.2 x hx;simp only [ay.ok,within,cg,decide_eq_true_eq] at this;omega
theorem Gl {b:aG} (h:b.okB=true) (hs:b.small) (hq:b.qs.length < 2 ^ 20) (hr:∀ p∈b.qs,p.dz):b.fY:=
 ⟨hs,hq,hr,fun p hp=>by have:=Ct (Br h p hp);exact ⟨⟨this.1,this.2.1⟩,this.2.2⟩⟩
theorem xS (s:af) (w:Int) (hs:s.small) (hr:s.dz) (hq:s.book.qs.length < 2 ^ 20) (hbl:s.aT.length < 2 ^ 20):Abs.Spec Tryz.prog 187 [] [.agg s.cells,.int .i64 w] [.own 4 ((oC s w).qs.map aA.cells),.own 3 ((p9 s w).map aN.cells)] (.bD [.agg [.int .i64 (oC s w).next,.sl 7 ((oC s w).ts.map aL.cells),.ref 0],.ref 1,.int .i64 (og s w)]):=by
 have c1:=KG s w hs hr;have c2:=mF s.book hs.book;have cSell:=fun b n q hb=>HK s b w n q hs hb hbl
 have cI:=fun n=>dc s.aj n hs.aj.small
 have hme:=@uf s w;simp only [oC,p9,og];obtain ⟨me,hmed⟩:=aO (Ks s w);rw [<- hmed] at c1 hme;simp only [<- hmed];have c1':=c1;simp only [af.cells] at c1 cSell |-;simp only [aG.cells] at c2;simp only [aq.cells] at cI;clear c1' hmed;refine aU 110 2 [.cell 4 33,.tmp 5,.tmp 6] mixed Tryz.func187 ?_;simp only [go_sem,seval];(with_reducible and_intros)<;>first|exact .dq|omega|skip
 refine aa.pure c1 ?_;clear c1
 by_cases b1:me=0
 case neg =>
  have d:(me==0)=false:=by simpa using b1
  simp only [if_neg b1];simp only [go_sem,seval,bne,d]
  all_goals simp
 obtain ⟨hright,_⟩:=hme b1;obtain ⟨hroll,hbook,_⟩:=oN hright;have hfine:=Gl hbook hs.book hq hr.qs;have hmu:=fun n=>Qj hroll n
 simp only [b1,if_true];obtain ⟨R,hR⟩:=aO (mj s w 8 0 s.book);have hRf:R.1.fY:=by rw [hR];exact yF 8 0 hfine
 simp only [<- hR];clear hme hright hroll hbook b1;simp only [go_sem,seval];(with_reducible and_intros)<;>first|exact .dq|omega|skip
 refine aa.pure c2 ?_;clear c2;simp only [go_sem,seval];(with_reducible and_intros)<;>first|exact .dq|omega|skip
 refine aB.walk (S:=aG) 8 [1,2,4,8] [48,80] (fun i _=>[(9,.int .i64 ((i:Int)+1))]) (fun _ b=>[(144,.box [.int .i64 b.next,.sl 7 (b.ts.map aL.cells),.sl 4 (b.qs.map aA.cells)])]) (fun i b=>mj s w (8-i) i b=R/\b.fY) s.book ⟨hR.symm,hfine⟩ ?_ ?_ ?_
 ·simp only [go_sem,seval]<;>simp
 ·rintro i b hi _ _ ⟨hI,hb⟩
  obtain ⟨n,hn⟩:=aO ((i:Int)+1);have hd:decide (n<=8)=true:=decide_eq_true (by omega);have hwn:IntKind.wrap .i64 (n+1)=((i+1:Nat):Int)+1:=by rw [bz (by omega) (by omega)];omega
  obtain ⟨m,hm⟩:∃ m,8-i=m+1:=⟨8-i-1,by omega⟩
  have hm2:8-(i+1)=m:=by omega
  rw [hm] at hI;simp only [mj,<- hn] at hI;have hsf:=qE (s:=s) (w:=w) hb n;have c3:=mZ b w n hb.small;have c4:=cSell b n (posOf w n b.qs).aX hb;have hst:gT s w b n=if (posOf w n b.qs).aX==0 then (b,0) else n7 s b w n (posOf w n b.qs).aX:=rfl
  obtain ⟨p,hp⟩:=aO (posOf w n b.qs);rw [<- hp] at c3 c4 hst;rw [<- hn];simp only [aG.cells,aA.cells] at c3 c4;clear cSell cI hp;cases q1:p.aX==0
  case true =>
   simp only [q1,if_true] at hst;rw [hst] at hI;simp only [if_true] at hI;simp only [go_sem,seval,hd];(with_reducible and_intros)<;>first|exact .dq|omega|skip
   refine aa.pure c3 ?_;simp only [go_sem,seval,q1,hwn];(with_reducible and_intros)<;>first|exact .dq|omega|skip
   refine ah.step b hi ⟨by rw [hm2];exact hI,hb⟩ ?_;simp only [go_sem,seval]
  simp only [q1,ir,if_false] at hst;rw [hst] at hI hsf;obtain ⟨X,hX⟩:=aO (n7 s b w n p.aX);rw [<- hX] at hI hsf c4;simp only [go_sem,seval,hd];(with_reducible and_intros)<;>first|exact .dq|omega|skip
  refine aa.pure c3 ?_;simp only [go_sem,seval,q1];(with_reducible and_intros)<;>first|exact .dq|omega|skip
  refine aa.pure c4 ?_
  by_cases q2:X.2=0
  ·rw [if_pos q2] at hI;rw [q2];simp only [go_sem,seval,bne,hwn];(with_reducible and_intros)<;>first|exact .dq|omega|skip
   refine ah.step X.1 hi ⟨by rw [hm2];exact hI,hsf⟩ ?_;simp only [go_sem,seval]
  ·have d:(X.2==0)=false:=by simpa using q2
   rw [if_neg q2] at hI;have hR2:R.2=X.2:=by rw [<- hI]
   simp only [hR2,if_neg q2];simp only [go_sem,seval,bne,d]
   all_goals simp
 ·rintro b _ ⟨hI,hb⟩
  have hI:(b,0)=R:=hI;simp only [<- hI,if_true];have c5:=mF b hb.small;have hbs:=hb.small.2;simp only [aG.cells] at c5;clear cSell hI hRf hR;have ecut:(if (if zS s w b.qs=true then (0:Int) else 1)=0 then (⟨b.next,b.ts,mU w b.qs⟩:aG) else ⟨0,[],[]⟩)=if zS s w b.qs=true then ⟨b.next,b.ts,mU w b.qs⟩ else ⟨0,[],[]⟩:=by cases zS s w b.qs<;>rfl
  have ecut2:(if (if zS s w b.qs=true then (0:Int) else 1)=0 then oG s w b.qs else [])=if zS s w b.qs=true then oG s w b.qs else []:=by cases zS s w b.qs<;>rfl
  rw [ecut,ecut2];clear ecut ecut2;simp only [go_sem,seval];(with_reducible and_intros)<;>first|exact .dq|omega|skip
  refine aa.pure c5 ?_;clear c5;simp only [go_sem,seval,aI];(with_reducible and_intros)<;>first|exact .dq|omega|skip
  refine aB.walk (S:=Unit) b.qs.length [1,2,4,8,12] [48,80,144] (fun i _=>[(14,.int .i64 i),(13,.ref 1728)]) (fun i _=>[(208,.box [.int .i64 b.next,.sl 7 (b.ts.map aL.cells),.ref 1280]),(1280,.own 4 ((mU w (b.qs.take i)).map aA.cells)),(1728,.own 3 ((oG s w (b.qs.take i)).map aN.cells))]) (fun i _=>zS s w (b.qs.drop i)=zS s w b.qs) () rfl ?_ ?_ ?_
  ·simp only [go_sem,seval]<;>simp [mU,oG]
  ·intro i _ hi hdi hwi hI;have hm:=aD (c:=aA.cells) b.qs hi;have hli:(i:Int) < (b.qs.length:Int):=by omega
   have hlt:(b.qs.take i).length=i:=by simp;omega
   have hs1:mU w (b.qs.take (i+1))=mU w (b.qs.take i)++_:=fA _ hi;have hs2:oG s w (b.qs.take (i+1))=oG s w (b.qs.take i)++_:=fA _ hi;have hl1:(mU w (b.qs.take i)).length<=1*(b.qs.take i).length:=dZ (fun p=>by split<;>simp) _;have hl2:(oG s w (b.qs.take i)).length<=1*(b.qs.take i).length:=dZ (fun p=>by unfold LY;split<;>simp) _;have hxo:=hb.ok _ (List.getElem_mem hi);obtain ⟨x,hx⟩:=aO (b.qs[i]);obtain ⟨K,hK⟩:=aO (mU w (b.qs.take i));obtain ⟨V,hV⟩:=aO (oG s w (b.qs.take i));rw [dJ hi,<- hx] at hI;rw [<- hx] at hm hs1 hs2 hxo;rw [<- hK] at hs1 hl1;rw [<- hV] at hs2 hl2;rw [<- hK,<- hV];have hc:zS s w (x :: b.qs.drop (i+1))=((!(x.who==w)||bS (gP x (aV s.aj x.inst).mult 0))&&zS s w (b.qs.drop (i+1))):=rfl;rw [hc] at hI;have cIx:=cI x.inst;have hmux:=hmu x.inst;simp only [LY] at hs2;obtain ⟨y,hy⟩:=aO (aV s.aj x.inst);rw [<- hy] at cIx hmux hI;simp only [<- hy] at hs2;have cW:=uD x y.mult 0 ⟨by omega,by omega⟩ hxo.2 hmux ⟨by omega,by omega⟩;simp only [aA.cells] at hm cW;simp only [ay.cells] at cIx;clear cI hmu hK hV hy;cases q1:x.who==w
   ·simp only [q1,ir,if_false,List.append_nil] at hs1 hs2;simp only [q1,Bool.not_false,Bool.true_or,Bool.true_and] at hI;simp only [go_sem,seval,aI,hdi,hm,bne,q1,hwi];(with_reducible and_intros)<;>first|exact .dq|omega|skip
    refine ah.step () hi hI ?_;simp only [go_sem,seval,hs1,hs2]<;>simp
   simp only [q1,if_true,List.append_nil] at hs1 hs2;simp only [q1,Bool.not_true,Bool.false_or] at hI;simp only [go_sem,seval,aI,hdi,hm,bne,q1];(with_reducible and_intros)<;>first|exact .dq|omega|skip
   refine aa.pure cIx ?_;simp only [go_sem,seval];(with_reducible and_intros)<;>first|exact .dq|omega|skip
   refine aa.pure cW ?_;cases q2:bS (gP x y.mult 0)
   ·rw [q2,Bool.false_and] at hI;rw [<- hI];simp only [go_sem,seval,q2]
    all_goals simp
   rw [q2,Bool.true_and] at hI;simp only [go_sem,seval,q2,hwi,aI,if_true];(with_reducible and_intros)<;>first|exact .dq|omega|skip
   refine ah.step () hi hI ?_;simp only [go_sem,seval,hs1,hs2]<;>simp
  ·intro _ hdx hI;rw [List.drop_length] at hI;rw [<- hI,show zS s w []=true from rfl];simp only [go_sem,seval,aI,hdx,List.take_length]
   all_goals simp
theorem w9 (s:af) (w:Int) (hs:s.small) (hr:s.dz) (hq:s.book.qs.length < 2 ^ 20) (hbl:s.aT.length < 2 ^ 20):Abs.Spec Tryz.prog 187 [] [.agg s.cells,.int .i64 w] [] (.bD [.agg (oC s w).cells,.sl 3 ((p9 s w).map aN.cells),.int .i64 (og s w)]):=by
 refine Spec.frozen (xS s w hs hr hq hbl) [0,1] rfl ?_;intro r;rcases r with _ | _ | r<;>rfl
def CI (s:af) (w c gain:Int):Int:=aC [gain,min (gG ⟨2,w,c⟩ s.bE.bs) 0]
def O8 (s:af) (w c gain:Int):Int:=aC [max (gG ⟨2,w,c⟩ s.bE.bs) 0,sI s w c,max (CI s w c gain) 0]
def RI (s:af) (w c gain:Int):Bool:=(bS (sP s w c)&&bS (CI s w c gain))&&(bS (O8 s w c gain)&&(gK s.bE c (dy s w)==0&&jF s.aj (dy s w)==0))
def oH (s:af) (w c gain:Int):Int:=if bA s then (if bq s.aj w=0 then 10 else if within c 0 2&&bS gain then (if RI s w c gain then 0 else 1) else 3) else 14
def rB (s:af) (w c gain:Int):List Int:=if oH s w c gain=0 then [O8 s w c gain,gG ⟨3,w,c⟩ s.bE.bs,gG ⟨4,0,c⟩ s.bE.bs,oO s.bE c (dy s w),tE s.aj (dy s w)] else []
def zj (s:af) (w c gain:Int):Int:=if oH s w c gain=0 then max (-CI s w c gain) 0 else 0
theorem GR {l:List Int} (h:bS (aC l)=true):addN l=aC l:=by simp [addN,h]
theorem Q4 (s:af) (w c:Int):bS (sI s w c)=true:=by
 unfold sI;split
 ·assumption
 ·rfl
theorem J0 (s:af) (w c gain:Int) (hs:s.small) (hr:s.dz) (hm:s.aj.ms.length < 2 ^ 27):Abs.Spec Tryz.prog 189 [] [.agg s.cells,.int .i64 w,.int .i64 c,.int .i64 gain] [.own 1 (ints (rB s w c gain))] (.bD [.int .i64 (zj s w c gain),.ref 0,.int .i64 (oH s w c gain)]):=by
 have c1:=gC s hs hr;have c2:=l7 s w hs.aj.small;have c3:=fH c;have c4:=cY gain;have cA:=fun k w=>zb k w c
 have cO:=fun a=>jQ s.bE a hs.bE
 have c5:=pT s w hs;have hol:=zq s w;have c6:=tw s.bE c (dy s w) hs.bE hr.bs (by omega);have c7:=uH s.aj (dy s w) hs.aj hr.ms (by omega);have cSold:=w6 s w c hs;have hrp:=@oN s;simp only [aJ.cells,bn.cells] at cO;simp only [bn.cells] at c6;simp only [aq.cells] at c7;obtain ⟨t,ht⟩:=aO (bq s.aj w);obtain ⟨E,hE⟩:=aO (oH s w c gain);have hE0:=hE;simp only [oH,<- ht] at hE;simp only [rB,zj,<- hE0];rw [<- ht] at c2;simp only [af.cells] at c1 c2 c5 cSold |-;clear ht hE0 hol;refine aU 120 4 [.tmp 8,.tmp 9,.tmp 10] mixed Tryz.func189 ?_;simp only [go_sem,seval];(with_reducible and_intros)<;>first|exact .dq|omega|skip
 refine aa.pure c1 ?_;clear c1;cases b1:bA s
 ·rw [b1,if_neg (by simp)] at hE;rw [hE];simp only [go_sem,seval,b1]<;>simp [ints]
 obtain ⟨hroll,hbook,hled,hps,_⟩:=hrp b1;have cSold:=cSold hroll hps;rw [b1,if_pos rfl] at hE;simp only [go_sem,seval,b1];(with_reducible and_intros)<;>first|exact .dq|omega|skip
 refine aa.pure c2 ?_;clear c2
 by_cases b2:t=0
 ·rw [if_pos b2] at hE;rw [hE,b2];simp only [go_sem,seval]<;>simp [ints]
 have d2:(t==0)=false:=by simpa using b2
 rw [if_neg b2] at hE;simp only [go_sem,seval,d2];(with_reducible and_intros)<;>first|exact .dq|omega|skip
 refine aa.pure c3 ?_;clear c3;cases b3:within c 0 2
 ·rw [b3,Bool.false_and,if_neg (by simp)] at hE;rw [hE];simp only [go_sem,seval]<;>simp [ints]
 simp only [go_sem,seval];(with_reducible and_intros)<;>first|exact .dq|omega|skip
 refine aa.pure c4 ?_;clear c4;cases b4:bS gain
 ·rw [b4,Bool.and_false,if_neg (by simp)] at hE;rw [hE];simp only [go_sem,seval]<;>simp [ints]
 rw [b3,b4,Bool.and_self,if_pos rfl] at hE;have hg:=cR.1 b4;have hcash:=yG hled ⟨2,w,c⟩;have hcr:=cR.1 hcash;have c8:=cu [gain,min (gG ⟨2,w,c⟩ s.bE.bs) 0] (by intro n hn;simp only [List.mem_cons,List.not_mem_nil,or_false] at hn;rcases hn with rfl | rfl<;>exact ⟨by omega,by omega⟩) (by simp);have eX:aC [gain,min (gG ⟨2,w,c⟩ s.bE.bs) 0]=CI s w c gain:=rfl;have hX:bS (CI s w c gain)=true->addN [gain,min (gG ⟨2,w,c⟩ s.bE.bs) 0]=CI s w c gain:=fun h=>GR h
 have hsn:=cR.1 (Q4 s w c);have c9:=fun (h:bS (CI s w c gain)=true)=>cu [max (gG ⟨2,w,c⟩ s.bE.bs) 0,sI s w c,max (CI s w c gain) 0] (by have:=cR.1 h;intro n hn;simp only [List.mem_cons,List.not_mem_nil,or_false] at hn;rcases hn with rfl | rfl | rfl<;>exact ⟨by omega,by omega⟩) (by simp)
 have eF:aC [max (gG ⟨2,w,c⟩ s.bE.bs) 0,sI s w c,max (CI s w c gain) 0]=O8 s w c gain:=rfl;have hF:bS (O8 s w c gain)=true->addN [max (gG ⟨2,w,c⟩ s.bE.bs) 0,sI s w c,max (CI s w c gain) 0]=O8 s w c gain:=fun h=>GR h
 rw [eX] at c8;simp only [eF] at c9;simp only [RI] at hE;simp only [ints,List.map_cons,List.map_nil] at c8 c9;have cO2:=cO ⟨2,w,c⟩;have cO3:=cO ⟨3,w,c⟩;have cO4:=cO ⟨4,0,c⟩;obtain ⟨ca,hca⟩:=aO (gG ⟨2,w,c⟩ s.bE.bs);obtain ⟨ow,how⟩:=aO (gG ⟨3,w,c⟩ s.bE.bs);obtain ⟨sk,hsk⟩:=aO (gG ⟨4,0,c⟩ s.bE.bs);obtain ⟨X,hXd⟩:=aO (CI s w c gain);obtain ⟨F,hFd⟩:=aO (O8 s w c gain);simp only [<- hca,<- hXd,<- hFd] at c8 c9 hX hF hE;rw [<- hca] at cO2;rw [<- how] at cO3;rw [<- hsk] at cO4;simp only [<- hXd,<- hFd,<- how,<- hsk];clear eX eF hcash hcr hca how hsk hXd hFd cO hg hsn;simp only [go_sem,seval];(with_reducible and_intros)<;>first|exact .dq|omega|skip
 refine aa.pure (cA 2 w) ?_;simp only [go_sem,seval];(with_reducible and_intros)<;>first|exact .dq|omega|skip
 refine aa.pure cO2 ?_;simp only [go_sem,seval];(with_reducible and_intros)<;>first|exact .dq|omega|skip
 refine aa.pure cSold ?_;simp only [go_sem,seval];(with_reducible and_intros)<;>first|exact .dq|omega|skip
 refine aa.gen [] [] true (by simp) ?_;simp only [go_sem,seval];refine bg.intro c8 ?_;cases k1:bS (sP s w c)
 ·rw [k1,Bool.false_and,Bool.false_and,if_neg (by simp)] at hE;rw [hE];simp only [go_sem,seval,k1]<;>simp [ints]
 cases k2:bS X
 ·rw [k1,k2,Bool.and_false,Bool.false_and,if_neg (by simp)] at hE;rw [hE];simp only [go_sem,seval,k1,k2]<;>simp [ints]
 have hXr:=cR.1 k2;have hX:=hX k2;have c9:=c9 k2;rw [hX];rw [k1,k2,Bool.and_self,Bool.true_and] at hE;simp only [go_sem,seval,k1,k2];(with_reducible and_intros)<;>first|exact .dq|omega|skip
 refine aa.gen [] [] true (by simp) ?_;simp only [go_sem,seval];refine bg.intro c9 ?_;simp only [go_sem,seval];(with_reducible and_intros)<;>first|exact .dq|omega|skip
 refine aa.pure c5 ?_;simp only [go_sem,seval];(with_reducible and_intros)<;>first|exact .dq|omega|skip
 refine aa.pure c6 ?_;simp only [go_sem,seval];(with_reducible and_intros)<;>first|exact .dq|omega|skip
 refine aa.pure c5 ?_;simp only [go_sem,seval];(with_reducible and_intros)<;>first|exact .dq|omega|skip
 refine aa.pure c7 ?_;cases k3:bS F
 ·rw [k3,Bool.false_and,if_neg (by simp)] at hE;rw [hE];simp only [go_sem,seval,k3]<;>simp [ints]
 have hF:=hF k3;cases k4:gK s.bE c (dy s w)==0
 ·rw [k3,k4,Bool.false_and,Bool.and_false,if_neg (by simp)] at hE;rw [hE];simp only [go_sem,seval,k3,bne,k4]<;>simp [ints]
 cases k5:jF s.aj (dy s w)==0
 ·rw [k3,k4,k5,Bool.and_false,Bool.and_false,if_neg (by simp)] at hE;rw [hE];simp only [go_sem,seval,k3,bne,k4,k5]<;>simp [ints]
 rw [k3,k4,k5,Bool.and_self,Bool.and_self,if_pos rfl] at hE;have hw:IntKind.wrap .i64 (0-X) = -X:=by rw [bz (by omega) (by omega)];omega
 rw [hE,hF];simp only [go_sem,seval,k3,bne,k4,k5,hw];(with_reducible and_intros)<;>first|exact .dq|omega|skip
 refine aa.pure (cA 3 w) ?_;simp only [go_sem,seval];(with_reducible and_intros)<;>first|exact .dq|omega|skip
 refine aa.pure cO3 ?_;simp only [go_sem,seval];(with_reducible and_intros)<;>first|exact .dq|omega|skip
 refine aa.pure (cA 4 0) ?_;simp only [go_sem,seval];(with_reducible and_intros)<;>first|exact .dq|omega|skip
 refine aa.pure cO4 ?_;simp only [go_sem,seval]<;>simp [ints]
theorem HI (s:af) (w c gain:Int) (hs:s.small) (hr:s.dz) (hm:s.aj.ms.length < 2 ^ 27):Abs.Spec Tryz.prog 189 [] [.agg s.cells,.int .i64 w,.int .i64 c,.int .i64 gain] [] (.bD [.int .i64 (zj s w c gain),.sl 1 (ints (rB s w c gain)),.int .i64 (oH s w c gain)]):=by
 refine Spec.frozen (J0 s w c gain hs hr hm) [0] rfl ?_;intro r;rcases r with _ | r<;>rfl
def Tt (s:af) (w c gain:Int) (f:ck):List aS:=
 bP ⟨1,0,c⟩ ⟨2,w,c⟩ (sI s w c)++bP ⟨5,0,c⟩ ⟨2,w,c⟩ gain++bP ⟨6,0,c⟩ ⟨2,w,c⟩ f.gh++bP ⟨2,w,c⟩ ⟨6,0,c⟩ f.c0++bP ⟨3,w,c⟩ ⟨6,0,c⟩ f.c1++bP ⟨4,0,c⟩ ⟨6,0,c⟩ f.c2
def LL (s:af) (w c gain:Int) (f:ck) (x y:Int):List aS:=
 Tt s w c gain f++za s.bE c f.c3 (dy s w)++oL s.aj c f.c4 (dy s w)++bP ⟨2,w,c⟩ ⟨1,0,c⟩ x++bP ⟨3,w,c⟩ ⟨1,0,c⟩ y
def kk (s:af) (w c gain:Int) (f:ck) (a b:Int):List aS × Int × Int:=
 if Jq s.bE c f.c3 (dy s w)=0 then (if wB s.aj c f.c4 (dy s w)=0 then (if bS (a-f.c0+(b-f.c1)) then (iY (LL s w c gain f (a-f.c0) (b-f.c1)),a-f.c0+(b-f.c1),mX (LL s w c gain f (a-f.c0) (b-f.c1))) else ([],0,1)) else ([],0,wB s.aj c f.c4 (dy s w))) else ([],0,Jq s.bE c f.c3 (dy s w))
theorem tR (l:List aS):(iY l).length<=306:=by
 unfold iY;split
 ·exact Nat.le_trans (FM _ _) wo
 ·simp
theorem Fi (k c n all:Int) (ws gs:List Int):(tq k c n all ws gs).length<=306:=by
 unfold tq;split
 ·exact tR _
 ·simp
theorem Od (l:bn) (c n:Int) (ws:List Int):(za l c n ws).length<=306:=by
 unfold za;split
 ·exact Fi _ _ _ _ _ _
 ·simp
theorem Jv (r:aq) (c n:Int) (ws:List Int):(oL r c n ws).length<=306:=by
 unfold oL;split
 ·exact Fi _ _ _ _ _ _
 ·simp
theorem By (s:af) (w c gain:Int) (f:ck) (caps:List Int) (a b:Int) (rest:List Int) (hcaps:caps=a :: b :: rest) (hrl:rest.length < 2 ^ 20) (hs:s.small) (hr:s.dz) (hm:s.aj.ms.length < 2 ^ 27) (h1:s.aj.okB=true) (h2:gj s.ps=true) (hx:fy (a-f.c0)) (hy:fy (b-f.c1)) :
  Abs.Spec Tryz.prog 191 [] [.agg s.cells,.int .i64 w,.int .i64 c,.int .i64 gain,.agg f.cells,.sl 1 (ints caps)] [] (.bD [.sl 4 ((kk s w c gain f a b).1.map aS.cells),.int .i64 (kk s w c gain f a b).2.1,.int .i64 (kk s w c gain f a b).2.2]):=by
 have cA:=fun k w=>zb k w c
 have cM:=fun x y n=>iu x y n
 have cSold:=w6 s w c hs h1 h2;have c5:=pT s w hs;have hol:=zq s w;have c6:=GX s.bE c f.c3 (dy s w) hs.bE hr.bs (by omega);have c7:=BF s.aj c f.c4 (dy s w) hs.aj hr.ms (by omega);have c8:=cu [a-f.c0,b-f.c1] (by intro n hn;simp only [List.mem_cons,List.not_mem_nil,or_false] at hn;rcases hn with rfl | rfl<;>assumption) (by simp);have eX:aC [a-f.c0,b-f.c1]=a-f.c0+(b-f.c1):=by simp [aC]
 have hw1:IntKind.wrap .i64 (a-f.c0)=a-f.c0:=bz hx.1 (by have:=hx.2;omega);have hw2:IntKind.wrap .i64 (b-f.c1)=b-f.c1:=bz hy.1 (by have:=hy.2;omega);have hlv:=Od s.bE c f.c3 (dy s w);have hla:=Jv s.aj c f.c4 (dy s w);have cJ:=lZ (LL s w c gain f (a-f.c0) (b-f.c1)) (by simp [LL,Tt,bP];omega);obtain ⟨R,hR⟩:=aO (kk s w c gain f a b);rw [<- hR];simp only [kk] at hR;obtain ⟨G,hG⟩:=aO (LL s w c gain f (a-f.c0) (b-f.c1));rw [<- hG] at cJ hR;simp only [LL,Tt] at hG;obtain ⟨x,hxd⟩:=aO (a-f.c0);obtain ⟨y,hyd⟩:=aO (b-f.c1);rw [<- hxd,<- hyd] at eX c8 hG hR;have hw1:=hw1.trans hxd.symm;have hw2:=hw2.trans hyd.symm;rw [eX] at c8;have hadd:bS (x+y)=true->addN [x,y]=x+y:=fun h=>by rw [GR (by rw [eX];exact h),eX]
 have hmv:∀ p q n,(bP p q n).length=2:=fun _ _ _=>rfl
 obtain ⟨e1,he1⟩:=aO (Jq s.bE c f.c3 (dy s w));obtain ⟨e2,he2⟩:=aO (wB s.aj c f.c4 (dy s w));obtain ⟨V,hV⟩:=aO (za s.bE c f.c3 (dy s w));obtain ⟨U,hU⟩:=aO (oL s.aj c f.c4 (dy s w));rw [<- hV] at c6 hG hlv;rw [<- hU] at c7 hG hla;rw [<- he1] at c6;rw [<- he2] at c7;rw [<- he1,<- he2] at hR;have m1:=cM ⟨1,0,c⟩ ⟨2,w,c⟩ (sI s w c);have m2:=cM ⟨5,0,c⟩ ⟨2,w,c⟩ gain;have m3:=cM ⟨6,0,c⟩ ⟨2,w,c⟩ f.gh;have m4:=cM ⟨2,w,c⟩ ⟨6,0,c⟩ f.c0;have m5:=cM ⟨3,w,c⟩ ⟨6,0,c⟩ f.c1;have m6:=cM ⟨4,0,c⟩ ⟨6,0,c⟩ f.c2;have m7:=cM ⟨2,w,c⟩ ⟨1,0,c⟩ x;have m8:=cM ⟨3,w,c⟩ ⟨1,0,c⟩ y;obtain ⟨A1,hA1⟩:∃ A,A=bP ⟨1,0,c⟩ ⟨2,w,c⟩ (sI s w c):=⟨_,rfl⟩
 obtain ⟨A2,hA2⟩:∃ A,A=bP ⟨5,0,c⟩ ⟨2,w,c⟩ gain:=⟨_,rfl⟩
 obtain ⟨A3,hA3⟩:∃ A,A=bP ⟨6,0,c⟩ ⟨2,w,c⟩ f.gh:=⟨_,rfl⟩
 obtain ⟨A4,hA4⟩:∃ A,A=bP ⟨2,w,c⟩ ⟨6,0,c⟩ f.c0:=⟨_,rfl⟩
 obtain ⟨A5,hA5⟩:∃ A,A=bP ⟨3,w,c⟩ ⟨6,0,c⟩ f.c1:=⟨_,rfl⟩
 obtain ⟨A6,hA6⟩:∃ A,A=bP ⟨4,0,c⟩ ⟨6,0,c⟩ f.c2:=⟨_,rfl⟩
 obtain ⟨A7,hA7⟩:∃ A,A=bP ⟨2,w,c⟩ ⟨1,0,c⟩ x:=⟨_,rfl⟩
 obtain ⟨A8,hA8⟩:∃ A,A=bP ⟨3,w,c⟩ ⟨1,0,c⟩ y:=⟨_,rfl⟩
 have z1:A1.length=2:=by rw [hA1];rfl
 have z2:A2.length=2:=by rw [hA2];rfl
 have z3:A3.length=2:=by rw [hA3];rfl
 have z4:A4.length=2:=by rw [hA4];rfl
 have z5:A5.length=2:=by rw [hA5];rfl
 have z6:A6.length=2:=by rw [hA6];rfl
 have z7:A7.length=2:=by rw [hA7];rfl
 have z8:A8.length=2:=by rw [hA8];rfl
 rw [<- hA1,<- hA2,<- hA3,<- hA4,<- hA5,<- hA6,<- hA7,<- hA8] at hG;rw [<- hA1] at m1;rw [<- hA2] at m2;rw [<- hA3] at m3;rw [<- hA4] at m4;rw [<- hA5] at m5;rw [<- hA6] at m6;rw [<- hA7] at m7;rw [<- hA8] at m8;have hmap:G.map aS.cells=A1.map aS.cells++A2.map aS.cells++A3.map aS.cells++A4.map aS.cells++A5.map aS.cells++A6.map aS.cells++V.map aS.cells++U.map aS.cells++A7.map aS.cells++A8.map aS.cells:=by rw [hG];simp only [List.map_append]
 rw [hmap] at cJ;simp only [aJ.cells] at m1 m2 m3 m4 m5 m6 m7 m8;simp only [bn.cells] at c6;simp only [aq.cells] at c7;simp only [af.cells] at c5 cSold |-;simp only [ck.cells];simp only [ints,List.map_cons,List.map_nil] at c8;rw [hcaps];have hcl:(ints (a :: b :: rest)).length=rest.length+2:=by rw [az];rfl
 have hca:=ints_at (a :: b :: rest) (i:=0) (by simp);have hcb:=ints_at (a :: b :: rest) (i:=1) (by simp);simp only [List.getElem_cons_zero,List.getElem_cons_succ] at hca hcb;have hp0:(0:Int) < ((rest.length+2:Nat):Int):=by omega
 have hp1:(1:Int) < ((rest.length+2:Nat):Int):=by omega
 obtain ⟨cp,hcp⟩:=aO (ints (a :: b :: rest));rw [<- hcp] at hcl hca hcb |-;clear cM hA1 hA2 hA3 hA4 hA5 hA6 hA7 hA8 hV hU he1 he2 hxd hyd hcp hcaps hG hmap hol hmv;refine aU 171 6 [.tmp 12,.tmp 13,.tmp 14] mixed Tryz.func191 ?_;simp only [go_sem,seval];(with_reducible and_intros)<;>first|exact .dq|omega|skip
 refine aa.pure cSold ?_;simp only [go_sem,seval];(with_reducible and_intros)<;>first|exact .dq|omega|skip
 refine aa.pure (cA 2 w) ?_;simp only [go_sem,seval];(with_reducible and_intros)<;>first|exact .dq|omega|skip
 refine aa.pure (cA 1 0) ?_;simp only [go_sem,seval];(with_reducible and_intros)<;>first|exact .dq|omega|skip
 refine aa.pure (cA 6 0) ?_;simp only [go_sem,seval];(with_reducible and_intros)<;>first|exact .dq|omega|skip
 refine aa.pure (cA 3 w) ?_;simp only [go_sem,seval];(with_reducible and_intros)<;>first|exact .dq|omega|skip
 refine aa.pure m1 ?_;simp only [go_sem,seval,aI,z1];(with_reducible and_intros)<;>first|exact .dq|omega|skip
 refine aa.pure (cA 5 0) ?_;simp only [go_sem,seval];(with_reducible and_intros)<;>first|exact .dq|omega|skip
 refine aa.pure m2 ?_;simp only [go_sem,seval,aI,List.length_append,z1,z2];(with_reducible and_intros)<;>first|exact .dq|omega|skip
 refine aa.pure m3 ?_;simp only [go_sem,seval,aI,List.length_append,z1,z2,z3];(with_reducible and_intros)<;>first|exact .dq|omega|skip
 refine aa.pure m4 ?_;simp only [go_sem,seval,aI,List.length_append,z1,z2,z3,z4];(with_reducible and_intros)<;>first|exact .dq|omega|skip
 refine aa.pure m5 ?_;simp only [go_sem,seval,aI,List.length_append,z1,z2,z3,z4,z5];(with_reducible and_intros)<;>first|exact .dq|omega|skip
 refine aa.pure (cA 4 0) ?_;simp only [go_sem,seval];(with_reducible and_intros)<;>first|exact .dq|omega|skip
 refine aa.pure m6 ?_;simp only [go_sem,seval,aI,List.length_append,z1,z2,z3,z4,z5,z6];(with_reducible and_intros)<;>first|exact .dq|omega|skip
 refine aa.pure c5 ?_;simp only [go_sem,seval];(with_reducible and_intros)<;>first|exact .dq|omega|skip
 refine aa.pure c6 ?_
 by_cases k1:e1=0
 case neg =>
  have d:(e1==0)=false:=by simpa using k1
  rw [if_neg k1] at hR;rw [hR];simp only [go_sem,seval,bne,d]<;>simp
 rw [if_pos k1] at hR;rw [k1];simp only [go_sem,seval];(with_reducible and_intros)<;>first|exact .dq|omega|skip
 refine aa.pure c5 ?_;simp only [go_sem,seval];(with_reducible and_intros)<;>first|exact .dq|omega|skip
 refine aa.pure c7 ?_
 by_cases k2:e2=0
 case neg =>
  have d:(e2==0)=false:=by simpa using k2
  rw [if_neg k2] at hR;rw [hR];simp only [go_sem,seval,bne,d]<;>simp
 rw [if_pos k2] at hR;rw [k2];simp only [go_sem,seval,aI,List.length_append,z1,z2,z3,z4,z5,z6,hcl,hca,hcb,hw1,hw2];(with_reducible and_intros)<;>first|exact .dq|omega|skip
 refine aa.pure m7 ?_;simp only [go_sem,seval,aI,List.length_append,z1,z2,z3,z4,z5,z6,z7];(with_reducible and_intros)<;>first|exact .dq|omega|skip
 refine aa.pure m8 ?_;simp only [go_sem,seval,aI,List.length_append,z1,z2,z3,z4,z5,z6,z7,z8];(with_reducible and_intros)<;>first|exact .dq|omega|skip
 refine aa.gen [] [] true (by simp) ?_;simp only [go_sem,seval];refine bg.intro c8 ?_;cases k3:bS (x+y)
 ·rw [k3,if_neg (by simp)] at hR;rw [hR];simp only [go_sem,seval,k3]<;>simp
 rw [k3,if_pos rfl] at hR;rw [hadd k3,hR];simp only [go_sem,seval,k3];(with_reducible and_intros)<;>first|exact .dq|omega|skip
 refine aa.gen [2464] [] false (by simp) ?_;simp only [go_sem,seval];refine bg.intro cJ ?_;simp only [go_sem,seval]
 all_goals (with_reducible and_intros)<;>first|exact .dq|omega|skip
end Go.Proofs.YtacacccbcndjoaaGreat
