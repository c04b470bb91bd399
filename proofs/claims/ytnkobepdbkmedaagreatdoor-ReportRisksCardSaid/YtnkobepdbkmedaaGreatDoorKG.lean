/- The reference's legs of nets; greedy shares, falls, and what follows. No theorem of a claim. -/
import Derived.Test.YtnkobepdbkmedaaGreatDoorKF
set_option linter.unusedSimpArgs false
set_option linter.unusedVariables false
set_option maxHeartbeats 4000000
set_option maxRecDepth 16000
namespace Go.Proofs.YtnkobepdbkmedaaGreatDoor
open Go.Abs
theorem PC (l:List aQ):∀ (n:Nat) (f:Bool) (last:aQ) (out:List aQ),(∀ d∈out,bL d.cm=true)->∀ d∈(DC l n f last out).1,bL d.cm=true
 | 0,_,_,out,h=>h
 | n+1,f,last,out,h=>by
  simp only [DC];split
  ·split
   ·refine PC l n _ _ _ ?_;intro d hd;rcases List.mem_append.1 hd with hd | hd
    ·exact h d hd
    ·unfold Nz at hd;split at hd
     ·cases hd
     ·obtain rfl:=List.mem_singleton.1 hd;exact CJ _ _ _
   ·intro d hd;cases hd
  ·exact h
theorem Mq (l:List aQ):∀ (n:Nat) (f:Bool) (last:aQ) (out:List aQ),(DC l n f last out).1.length<=out.length+n
 | 0,_,_,out=>Nat.le_refl _
 | n+1,f,last,out=>by
  simp only [DC];split
  ·split
   ·refine Nat.le_trans (Mq l n _ _ _) ?_;have:∀ d,(Nz l d).length<=1:=fun d=>by unfold Nz;split<;>simp
    rw [List.length_append];have:=this (iI f last l (false,.zero)).2;omega
   ·simp
  ·simp
theorem J1 (l:List aQ):(∀ d∈(jJ l).1,bL d.cm=true)/\(jJ l).1.length<=l.length+1:=by
 unfold jJ;split
 ·exact ⟨PC l _ _ _ _ (by simp),Nat.le_trans (Mq l _ _ _ _) (by simp)⟩
 ·exact ⟨by simp,by simp⟩
def oQ (l:List aQ):List aY:=l.flatMap fun d=>[⟨2,d.who,d.cur,d.cm⟩,⟨5,0,d.cur,-d.cm⟩]
def Dn (l:List aQ):Bool:=l.all fun d=>aD.right ⟨2,d.who,d.cur⟩
def rA (l:List aQ):Int:=if Dn l then (if (jJ l).2=0 then nL (oQ (jJ l).1) else (jJ l).2) else 3
def oI (l:List aQ):List aY:=if rA l=0 then ji (oQ (jJ l).1) else []
theorem Io (l:List aQ):(oQ l).length<=2*l.length:=fF (fun d=>by simp) l
theorem DG (l:List aQ) (hl:l.length < 2 ^ 27):Abs.Spec Tryz.prog 195 [] [.sl 3 (l.map aQ.cells)] [] (.bI [.sl 4 ((oI l).map aY.cells),.int .i64 (rA l)]):=by
 have hN:=Dt l (by omega);obtain ⟨hno,hnl⟩:=J1 l;have hJ:=mP (oQ (jJ l).1) (by have:=Io (jJ l).1;omega)
 have e0:oI l=if Dn l&&(jJ l).2==0 then ji (oQ (jJ l).1) else []:=by
  by_cases hc:Dn l=true
  ·by_cases h:(jJ l).2=0
   ·by_cases h2:nL (oQ (jJ l).1)=0
    ·simp [oI,rA,hc,h,h2]
    ·simp [oI,rA,hc,h,h2,ji]
   ·simp [oI,rA,hc,h]
  ·simp [oI,rA,hc]
 simp only [rA];rw [e0];clear e0;obtain ⟨m,hm⟩:=aH ((jJ l).1);obtain ⟨e,he⟩:=aH ((jJ l).2);rw [<- hm] at hN hno hnl hJ;rw [<- he] at hN;rw [<- hm,<- he];clear hm he;refine bu 79 1 [.tmp 2,.tmp 3] mixed Tryz.func195 ?_;simp only [go_sem,seval,aJ];refine aC.walk (S:=Unit) l.length [0] [] (fun i _=>[(4,.int .i64 i)]) (fun _ _=>[]) (fun i _=>Dn (l.drop i)=Dn l) () rfl ?_ ?_ ?_
 ·simp only [go_sem,seval]<;>simp
 ·intro i _ hi hdi hwi hI;have hm:=aG (c:=aQ.cells) l hi;have hli:(i:Int) < (l.length:Int):=by omega
  obtain ⟨x,hx⟩:=aH (l[i]);have hR:=fT ⟨2,x.who,x.cur⟩;rw [dN hi,<- hx] at hI;rw [<- hx] at hm;have hc:Dn (x :: l.drop (i+1))=(aD.right ⟨2,x.who,x.cur⟩&&Dn (l.drop (i+1))):=rfl;rw [hc] at hI;simp only [aQ.cells] at hm;simp only [aD.cells] at hR;clear hN hJ;simp only [go_sem,seval,aJ,hdi,hm];(with_reducible and_intros)<;>first|exact .dq|omega|skip
  refine aa.pure hR ?_;cases q:aD.right ⟨2,x.who,x.cur⟩
  ·rw [q,Bool.false_and] at hI;rw [<- hI];simp only [go_sem,seval]<;>simp
  rw [q,Bool.true_and] at hI;simp only [go_sem,seval,hwi];refine ah.step () hi hI ?_;simp only [go_sem,seval]
 intro _ hdx hI;rw [List.drop_length] at hI;rw [<- hI,show Dn []=true from rfl];clear hI;simp only [go_sem,seval,aJ,hdx];(with_reducible and_intros)<;>first|exact .dq|omega|skip
 refine aa.pure hN ?_
 by_cases q:e=0
 case neg =>
  have d:(e==0)=false:=by simpa using q
  simp only [go_sem,seval,bne,d,if_neg q]
  all_goals simp
 rw [q,show (if ((0:Int)==0)=true then ji (oQ m) else [])=ji (oQ m) from rfl,if_pos rfl];simp only [go_sem,seval,aJ];(with_reducible and_intros)<;>first|exact .dq|omega|skip
 clear hN hdx;refine aC.walk (S:=Unit) m.length [5] [] (fun i _=>[(8,.int .i64 i),(7,.ref 1200)]) (fun i _=>[(1200,.own 4 ((oQ (m.take i)).map aY.cells))]) (fun _ _=>True) () trivial ?_ ?_ ?_
 ·simp only [go_sem,seval]<;>simp [oQ]
 ·intro i _ hi hdi hwi _;have hm:=aG (c:=aQ.cells) m hi;have hli:(i:Int) < (m.length:Int):=by omega
  have hs:oQ (m.take (i+1))=oQ (m.take i)++_:=gG _ hi;have hnl:=Io (m.take i);have hlt:(m.take i).length=i:=by simp;omega
  have hin:=cg.1 (hno m[i] (List.getElem_mem hi));obtain ⟨L,hL⟩:=aH (oQ (m.take i));obtain ⟨x,hx⟩:=aH (m[i]);rw [<- hL] at hs hnl |-;rw [<- hx] at hs hm hin;have hw:IntKind.wrap .i64 (0-x.cm) = -x.cm:=by rw [bn (by omega) (by omega)];omega
  simp only [aQ.cells] at hm;clear hJ;simp only [go_sem,seval,aJ,hdi,hm,hw,hwi];(with_reducible and_intros)<;>first|exact .dq|omega|skip
  refine ah.step () hi trivial ?_;simp only [go_sem,seval,hs]<;>simp
 ·intro _ hdx _;simp only [go_sem,seval,aJ,hdx,List.take_length];(with_reducible and_intros)<;>first|exact .dq|omega|skip
  refine aa.gen [1200] [] false (by simp) ?_;simp only [go_sem,seval];refine aU.intro hJ ?_;simp only [go_sem,seval]
theorem xq (l:List Int) (hl:l.length < 2 ^ 60):Abs.Spec Tryz.prog 270 [] [.sl 1 (ints l)] [] (.bool (right l)):=by
 refine bu 16 1 [.tmp 2] mixed Tryz.func270 ?_;simp only [go_sem,seval,av];refine aC.walk (S:=Unit) l.length [0] [] (fun i _=>[(3,.int .i64 i)]) (fun _ _=>[]) (fun i _=>right (l.drop i)=right l) () rfl ?_ ?_ ?_
 ·simp only [go_sem,seval]<;>simp
 ·intro i _ hi hdi hwi hI;have hm:=ints_at l hi;have hli:(i:Int) < (l.length:Int):=by omega
  obtain ⟨x,hx⟩:=aH (l[i]);have hN:=dn x;rw [dN hi,<- hx] at hI;rw [<- hx] at hm;have hc:right (x :: l.drop (i+1))=(bL x&&right (l.drop (i+1))):=rfl;rw [hc] at hI;simp only [go_sem,seval,av,hdi,hm];(with_reducible and_intros)<;>first|exact .dq|omega|skip
  refine aa.pure hN ?_;cases q:bL x
  ·rw [q,Bool.false_and] at hI;rw [<- hI];simp only [go_sem,seval]
  rw [q,Bool.true_and] at hI;simp only [go_sem,seval,hwi];refine ah.step () hi hI ?_;simp only [go_sem,seval]
 ·intro _ hdx hI;rw [List.drop_length] at hI;rw [<- hI];simp only [go_sem,seval,av,hdx];rfl
def BC (l:List Int):Bool:=l.all fun x=>!decide (x < 0)
def BY:Int->List Int->List Int
 | _,[]=>[]
 | t,c :: r=>min t c :: BY (t-min t c) r
def JW:Int->List Int->Int
 | t,[]=>t
 | t,c :: r=>JW (t-min t c) r
def tI (t:Int) (l:List Int):Int:=if (!decide (t < 0)&&bL t)&&right l then (if BC l then (if 1024 < l.length then 5 else 0) else 3) else 3
theorem Hx (t:Int) (l:List Int) (hl:l.length < 2 ^ 30):Abs.Spec Tryz.prog 253 [] [.int .i64 t,.sl 1 (ints l)] [.own 1 (ints (if tI t l=0 then BY t l else []))] (.bI [.ref 0,.int .i64 (if tI t l=0 then JW t l else 0),.int .i64 (tI t l)]):=by
 have c1:=dn t;have c2:=xq l (by omega);refine bu 58 2 [.tmp 4,.tmp 5,.tmp 6] mixed Tryz.func253 ?_
 by_cases q0:t < 0
 ·have d:decide (t < 0)=true:=decide_eq_true q0;have e:tI t l=3:=by simp [tI,q0]
  rw [e];simp only [go_sem,seval,d]<;>simp [ints]
 have d0:decide (t < 0)=false:=decide_eq_false q0;simp only [go_sem,seval,d0];refine aa.pure c1 ?_;cases q1:bL t
 ·have e:tI t l=3:=by simp [tI,q1]
  rw [e];simp only [go_sem,seval]<;>simp [ints]
 simp only [go_sem,seval];refine aa.pure c2 ?_;cases q2:right l
 ·have e:tI t l=3:=by simp [tI,q2]
  rw [e];simp only [go_sem,seval]<;>simp [ints]
 have e:tI t l=if BC l then (if 1024 < l.length then 5 else 0) else 3:=by simp only [tI,d0,q1,q2];rfl
 rw [e];clear e c1 c2;have hin:=fun x hx=>cg.1 (List.all_eq_true.1 q2 x hx)
 have htin:=cg.1 q1;simp only [go_sem,seval,av];refine aC.walk (S:=Unit) l.length [0,1] [] (fun i _=>[(7,.int .i64 i)]) (fun _ _=>[]) (fun i _=>BC (l.drop i)=BC l) () rfl ?_ ?_ ?_
 ·simp only [go_sem,seval]<;>simp
 ·intro i _ hi hdi hwi hI;have hm:=ints_at l hi;have hli:(i:Int) < (l.length:Int):=by omega
  obtain ⟨x,hx⟩:=aH (l[i]);rw [dN hi,<- hx] at hI;rw [<- hx] at hm;have hc:BC (x :: l.drop (i+1))=(!decide (x < 0)&&BC (l.drop (i+1))):=rfl;rw [hc] at hI
  by_cases q:x < 0
  ·have d:decide (x < 0)=true:=decide_eq_true q;rw [d,Bool.not_true,Bool.false_and] at hI;rw [<- hI];simp only [go_sem,seval,av,hdi,hm,d];(with_reducible and_intros)<;>first|exact .dq|omega|skip
   all_goals simp [ints]
  ·have d:decide (x < 0)=false:=decide_eq_false q;rw [d,Bool.not_false,Bool.true_and] at hI;simp only [go_sem,seval,av,hdi,hm,d,hwi];(with_reducible and_intros)<;>first|exact .dq|omega|skip
   refine ah.step () hi hI ?_;simp only [go_sem,seval]
 intro _ hdx hI;rw [List.drop_length] at hI;have hI:BC l=true:=hI.symm
 have hnn:∀ x∈l,0<=x:=fun x hx=>by
  have:=List.all_eq_true.1 hI x hx;simp only [Bool.not_eq_true',decide_eq_false_iff_not] at this;omega
 by_cases q4:1024 < l.length
 ·have d:decide (1024 < (l.length:Int))=true:=decide_eq_true (by omega);simp only [go_sem,seval,av,hdx,hI,if_pos q4,d];(with_reducible and_intros)<;>first|exact .dq|omega|skip
  all_goals simp [ints]
 have d4:decide (1024 < (l.length:Int))=false:=decide_eq_false (by omega);simp only [go_sem,seval,av,hdx,hI,if_neg q4,d4];(with_reducible and_intros)<;>first|exact .dq|omega|skip
 clear hdx hI;refine aC.walk (S:=Int × List Int) l.length [1] [] (fun i s=>[(9,.int .i64 i),(0,.int .i64 s.1),(8,.ref 848)]) (fun i s=>[(848,.own 1 (ints s.2))]) (fun i s=>(s.2++BY s.1 (l.drop i)=BY t l/\JW s.1 (l.drop i)=JW t l)/\(0<=s.1/\s.1<=t)/\s.2.length=i) (t,[]) ⟨⟨rfl,rfl⟩,by omega,rfl⟩ ?_ ?_ ?_
 ·simp only [go_sem,seval]<;>simp [ints]
 ·rintro i ⟨u,L⟩ hi hdi hwi ⟨⟨h1,h2⟩,h3,h4⟩
  dsimp only at h1 h2 h3 h4;have hm:=ints_at l hi;have hli:(i:Int) < (l.length:Int):=by omega
  have hx1:=hin _ (List.getElem_mem hi);have hx2:=hnn _ (List.getElem_mem hi);obtain ⟨x,hx⟩:=aH (l[i]);rw [dN hi,<- hx] at h1 h2;rw [<- hx] at hm hx1 hx2;simp only [BY,JW] at h1 h2;have hw:IntKind.wrap .i64 (u-min u x)=u-min u x:=bn (by omega) (by omega);simp only [go_sem,seval,av,hdi,hm,hw,hwi];(with_reducible and_intros)<;>first|exact .dq|omega|skip
  refine ah.step (u-min u x,L++[min u x]) hi ⟨⟨by rw [List.append_assoc];exact h1,h2⟩,by omega,by simp [h4]⟩ ?_;simp only [go_sem,seval]<;>simp [ints]
 ·rintro ⟨u,L⟩ hdx ⟨⟨h1,h2⟩,h3,h4⟩
  dsimp only at h1 h2;rw [List.drop_length] at h1 h2;simp only [BY,JW,List.append_nil] at h1 h2;simp only [go_sem,seval,av,hdx,if_true,<- h1,<- h2]
  all_goals simp
theorem fL (a b c:Int):Abs.Spec Tryz.prog 252 [] [.int .i64 a,.int .i64 b,.int .i64 c] [] (.bool (within a b c)):=by
 refine bu 15 3 [.tmp 6] mixed Tryz.func252 ?_;simp only [go_sem,seval]
 repeat' with_reducible first|apply And.intro|exact .dq|refine aa.pure (by assumption) ?_|refine .aT (fun h=>?_) fun h=>?_|refine .aO (fun h=>?_) fun h=>?_|refine .aS (fun h=>?_) fun h=>?_|refine .split (fun h=>?_) fun h=>?_|refine .id ?_|refine ah.next (by omega) ?_ ?_|exact trivial|simp only [*,go_sem,seval]
 all_goals (simp_all [within];try omega)
structure dV where
 src:Int
 bg:Int
 aX:Int
deriving DecidableEq
@[reducible] def dV.cells (x:dV):List D:=[.int .i64 x.src,.int .i64 x.bg,.int .i64 x.aX]
def ahead (long:Bool) (a b:bM):Bool:=if a.aX==b.aX then decide (a.src < b.src) else decide (b.aX < a.aX)==long
theorem Hr (long:Bool) (a b:bM):Abs.Spec Tryz.prog 275 [] [.bool long,.agg a.cells,.agg b.cells] [] (.bool (ahead long a b)):=by
 simp only [bM.cells];refine bu 24 3 [.tmp 6] mixed Tryz.func275 ?_;cases q:a.aX==b.aX
 ·simp only [go_sem,seval,bne,q,ahead,fZ,if_false]
  all_goals (with_reducible and_intros)<;>first|exact .dq|omega|skip
 ·simp only [go_sem,seval,bne,q,ahead,if_true]
  all_goals (with_reducible and_intros)<;>first|exact .dq|omega|skip
def kpos (long:Bool) (x:bM) (out:List bM):Nat->Nat
 | 0=>0
 | k+1=>if ahead long x (out.getD k ⟨0,0,0,0,0⟩) then kpos long x out k else k+1
theorem PL (long:Bool) (x:bM) (out:List bM):∀ k,kpos long x out k<=k
 | 0=>Nat.le_refl _
 | k+1=>by
  simp only [kpos];split
  ·have:=PL long x out k;omega
  ·exact Nat.le_refl _
def Ll (long:Bool) (x:bM) (out:List bM):List bM:=out.take (kpos long x out out.length)++x :: out.drop (kpos long x out out.length)
def Ev (long:Bool):List bM->List bM->List bM
 | out,[]=>out
 | out,x :: r=>Ev long (Ll long x out) r
def DS (long:Bool) (l:List bM):List bM:=Ev long [] l
theorem UN (long:Bool) (x:bM) (out:List bM):(Ll long x out).length=out.length+1:=by
 have:=PL long x out out.length;simp only [Ll,List.length_append,List.length_cons,List.length_take,List.length_drop];omega
theorem Ga (long:Bool):∀ (l out:List bM),(Ev long out l).length=out.length+l.length
 | [],out=>rfl
 | x :: r,out=>by simp only [Ev,Ga long r,UN,List.length_cons];omega
def hole (x:bM) (out:List bM) (k:Nat):List bM:=(out++[x]).take (k+1)++out.drop k
theorem rz {x:bM} {out:List bM} {k:Nat} (h:k<=out.length):(hole x out k).length=out.length+1:=by
 simp only [hole,List.length_append,List.length_take,List.length_drop,List.length_cons,List.length_nil];omega
theorem U5 (x:bM) (out:List bM):hole x out out.length=out++[x]:=by
 rw [hole,List.take_of_length_le (by simp),List.drop_length,List.append_nil]
theorem Gd {x:bM} {out:List bM} {k:Nat} (h:k<=out.length) {j:Nat} (hj:j < out.length+1):(hole x out k)[j]'(by rw [rz h];exact hj)=if h1:j<=k then (out++[x])[j]'(by simp;omega) else out[j-1]'(by omega):=by
 simp only [hole];split
 ·rename_i h1;rw [List.getElem_append_left (by simp;omega),List.getElem_take]
 ·rename_i h1;rw [List.getElem_append_right (by simp;omega),List.getElem_drop];have:k+(j-((out++[x]).take (k+1)).length)=j-1:=by simp;omega
  simp only [this]
theorem WB {x:bM} {out:List bM} {k:Nat} (h:k+1<=out.length):(hole x out (k+1))[k]'(by rw [rz h];omega)=out[k]'(by omega):=by
 rw [Gd h (by omega),dif_pos (by omega),List.getElem_append_left (by omega)]
theorem U0 {x:bM} {out:List bM} {k:Nat} (h:k+1<=out.length):(hole x out (k+1)).set (k+1) (out[k]'(by omega))=hole x out k:=by
 refine List.ext_getElem (by rw [List.length_set,rz h,rz (by omega)]) ?_;intro j h1 h2;have hj:j < out.length+1:=by rw [List.length_set,rz h] at h1;exact h1
 rw [List.getElem_set,Gd (k:=k) (by omega) hj,Gd h hj];split
 ·rename_i e;subst e;rw [dif_neg (by omega)];simp
 ·split
  ·rename_i e1 e2
   by_cases e3:j<=k
   ·rw [dif_pos e3]
   ·omega
  ·rename_i e1 e2;rw [dif_neg (by omega)]
theorem M9 {x:bM} {out:List bM} {k:Nat} (h:k<=out.length):(hole x out k).set k x=out.take k++x :: out.drop k:=by
 have hl:(out.take k).length=k:=by simp;omega
 have e:(out++[x]).take (k+1)=out.take k++[(out++[x])[k]'(by simp;omega)]:=by
  rw [List.take_succ_eq_append_getElem (by simp;omega),List.take_append_of_le_length h]
 rw [hole,e,List.append_assoc,List.set_append_right _ _ (by omega),hl,Nat.sub_self];rfl
theorem KI (long:Bool) (l:List bM) (hl:l.length < 2 ^ 29):Abs.Spec Tryz.prog 272 [] [.bool long,.sl 5 (l.map bM.cells)] [.own 5 ((DS long l).map bM.cells)] (.ref 0):=by
 have hA:=fun a b=>Hr long a b
 refine bu 56 2 [.tmp 4] mixed Tryz.func272 ?_;simp only [go_sem,seval,aJ];refine aC.walk (S:=List bM) l.length [0,1] [] (fun i _=>[(6,.int .i64 i),(5,.ref 96)]) (fun _ s=>[(96,.own 5 (s.map bM.cells))]) (fun i s=>Ev long s (l.drop i)=DS long l/\s.length=i) [] ⟨rfl,rfl⟩ ?_ ?_ ?_
 ·simp only [go_sem,seval]<;>simp
 ·rintro i out hi hdi hwi ⟨hI,hol⟩
  have hm:=aG (c:=bM.cells) l hi;have hli:(i:Int) < (l.length:Int):=by omega
  obtain ⟨x,hx⟩:=aH (l[i]);rw [dN hi,<- hx] at hI;rw [<- hx] at hm;simp only [Ev] at hI;simp only [bM.cells] at hm;simp only [go_sem,seval,aJ,hdi,hm];(with_reducible and_intros)<;>first|exact .dq|omega|skip
  refine aC.over (T:=Nat) [0,1,6] [] (fun k=>[(7,.int .i64 k),(5,.ref 96)]) (fun k=>[(96,.own 5 ((hole x out k).map bM.cells))]) (fun k=>k<=out.length/\kpos long x out k=kpos long x out out.length) (fun k=>k) out.length ⟨Nat.le_refl _,rfl⟩ ?_ ?_
  ·simp only [go_sem,seval,U5]<;>simp
  rintro k ⟨hk,hK⟩
  have hhl:=rz (x:=x) hk;rcases Nat.eq_zero_or_pos k with rfl | hpos
  ·have hfin:=M9 (x:=x) hk;have hins:Ll long x out=out.take 0++x :: out.drop 0:=by rw [Ll,<- hK];rfl
   rw [hins,<- hfin] at hI;have hI2:Ev long ((hole x out 0).set 0 x) (l.drop (i+1))=DS long l/\((hole x out 0).set 0 x).length=i+1:=⟨hI,by rw [List.length_set,hhl];omega⟩
   have hmz:=aG (c:=bM.cells) (hole x out 0) (i:=0) (by omega);simp only [bM.cells] at hmz;simp only [go_sem,seval];(with_reducible and_intros)<;>first|exact .dq|omega|skip
   refine fu.id ?_;simp only [go_sem,seval,hm,aJ,hhl,hwi];(with_reducible and_intros)<;>first|exact .dq|omega|skip
   all_goals first
    | omega
    | (refine ah.step ((hole x out 0).set 0 x) hi hI2 ?_
       simp only [go_sem,seval,List.map_set,hmz])
  ·obtain ⟨j,rfl⟩:∃ j,k=j+1:=⟨k-1,by omega⟩
   have hj:j < (hole x out (j+1)).length:=by omega
   have hmj:=aG (c:=bM.cells) (hole x out (j+1)) hj;have hset:=U0 (x:=x) hk;rw [WB hk] at hmj;have hgd:out.getD j ⟨0,0,0,0,0⟩=out[j]:=by simp [show j < out.length by omega]
   simp only [kpos,hgd] at hK;obtain ⟨y,hy⟩:=aH (out[j]'(by omega));rw [<- hy] at hmj hset hK;have hA:=hA x y;have hd0:decide (0 < ((j+1:Nat):Int))=true:=decide_eq_true (by omega);have hw1:IntKind.wrap .i64 (((j+1:Nat):Int)-1)=(j:Int):=by rw [bn (by omega) (by omega)];omega
   have hmz:=aG (c:=bM.cells) (hole x out (j+1)) (i:=j+1) (by omega);simp only [bM.cells] at hmj hA hmz;simp only [go_sem,seval,hd0,hm,aJ,hhl,hw1,hmj];(with_reducible and_intros)<;>first|exact .dq|omega|skip
   refine aa.pure hA ?_;cases q:ahead long x y
   ·rw [q] at hK;have hfin:=M9 (x:=x) hk;have hins:Ll long x out=out.take (j+1)++x :: out.drop (j+1):=by rw [Ll,<- hK];rfl
    rw [hins,<- hfin] at hI;have hI2:Ev long ((hole x out (j+1)).set (j+1) x) (l.drop (i+1))=DS long l/\((hole x out (j+1)).set (j+1) x).length=i+1:=⟨hI,by rw [List.length_set,hhl];omega⟩
    simp only [go_sem,seval,q];(with_reducible and_intros)<;>first|exact .dq|omega|skip
    refine fu.id ?_;simp only [go_sem,seval,hm,aJ,hhl,hwi];(with_reducible and_intros)<;>first|exact .dq|omega|skip
    all_goals first
     | omega
     | (refine ah.step ((hole x out (j+1)).set (j+1) x) hi hI2 ?_
        simp only [go_sem,seval,List.map_set,hmz])
   ·rw [q,if_pos rfl] at hK;simp only [go_sem,seval,q,hm,aJ,hhl,hw1,hmj];(with_reducible and_intros)<;>first|exact .dq|omega|skip
    all_goals first
     | omega
     | (refine ⟨j,⟨by omega,hK⟩,?_,by show j < j+1;omega⟩
        simp only [go_sem,seval,List.map_set,<- hset,hmz])
 ·rintro out hdx ⟨hI,hol⟩
  rw [List.drop_length] at hI;have hI:out=DS long l:=hI;simp only [go_sem,seval,aJ,hdx,<- hI]
theorem HR (long:Bool) (l:List bM) (hl:l.length < 2 ^ 29):Abs.Spec Tryz.prog 272 [] [.bool long,.sl 5 (l.map bM.cells)] [] (.sl 5 ((DS long l).map bM.cells)):=by
 refine Spec.frozen (KI long l hl) [0] rfl ?_;intro r;rcases r with _ | r<;>rfl
def rI (b:bM):Bool:=within b.bg 1 1048576&&within b.aX 1 1073741824
def lW:Int->List bM->List dV × Int
 | left,[]=>([],left)
 | left,b :: r=>if 0 < left then (⟨b.src,min left b.bg,b.aX⟩ :: (lW (left-min left b.bg) r).1,(lW (left-min left b.bg) r).2) else ([],left)
def qO (q:Int) (l:List bM):Int:=if within q (-1099511627776) 1099511627776&&l.all rI then 0 else 3
def kN (q:Int) (l:List bM):List dV × Int:=if qO q l=0 then lW (max q (-q)) (DS (decide (0 < q)) l) else ([],0)
theorem Ir:∀ (l:List bM) (left:Int),(lW left l).1.length<=l.length
 | [],_=>Nat.le_refl _
 | b :: r,left=>by
  simp only [lW];split
  ·have:=Ir r (left-min left b.bg);simp only [List.length_cons];omega
  ·simp
theorem NP (q:Int) (l:List bM) (hl:l.length < 2 ^ 28):Abs.Spec Tryz.prog 264 [] [.int .i64 q,.sl 5 (l.map bM.cells)] [.own 3 ((kN q l).1.map dV.cells)] (.bI [.ref 0,.int .i64 (kN q l).2,.int .i64 (qO q l)]):=by
 have c1:=fL q (-1099511627776) 1099511627776;have c2:=HR (decide (0 < q)) l (by omega);have hol:(DS (decide (0 < q)) l).length=l.length:=by rw [DS,Ga];simp
 refine bu 83 2 [.tmp 4,.tmp 5,.tmp 6] mixed Tryz.func264 ?_;simp only [go_sem,seval];refine aa.pure c1 ?_;cases b1:within q (-1099511627776) 1099511627776
 ·have e:qO q l=3:=by simp [qO,b1]
  simp only [go_sem,seval,kN,e]<;>simp
 have e:qO q l=if l.all rI then 0 else 3:=by simp [qO,b1]
 have hq:-1099511627776<=q/\q<=1099511627776:=by simpa [within] using b1
 simp only [kN];rw [e];clear e c1;simp only [go_sem,seval,aJ];refine aC.walk (S:=Unit) l.length [0,1] [] (fun i _=>[(7,.int .i64 i)]) (fun _ _=>[]) (fun i _=>(l.drop i).all rI=l.all rI) () rfl ?_ ?_ ?_
 ·simp only [go_sem,seval]<;>simp
 ·intro i _ hi hdi hwi hI;have hm:=aG (c:=bM.cells) l hi;have hli:(i:Int) < (l.length:Int):=by omega
  obtain ⟨x,hx⟩:=aH (l[i]);have k1:=fL x.bg 1 1048576;have k2:=fL x.aX 1 1073741824;rw [dN hi,<- hx] at hI;rw [<- hx] at hm;simp only [List.all_cons,rI] at hI;simp only [bM.cells] at hm;clear c2;simp only [go_sem,seval,aJ,hdi,hm];(with_reducible and_intros)<;>first|exact .dq|omega|skip
  refine aa.pure k1 ?_;cases q1:within x.bg 1 1048576
  ·rw [q1,Bool.false_and,Bool.false_and] at hI;have hI':l.all rI=false:=hI.symm;simp only [go_sem,seval,q1,hI']<;>simp
  simp only [go_sem,seval,q1,aJ,hm];(with_reducible and_intros)<;>first|exact .dq|omega|skip
  refine aa.pure k2 ?_;cases q2:within x.aX 1 1073741824
  ·rw [q1,q2,Bool.and_false,Bool.false_and] at hI;have hI':l.all rI=false:=hI.symm;simp only [go_sem,seval,q2,hI']<;>simp
  rw [q1,q2,Bool.and_self,Bool.true_and] at hI;simp only [go_sem,seval,q2,hwi];refine ah.step () hi hI ?_;simp only [go_sem,seval]
 intro _ hdx hI;rw [List.drop_length] at hI;have hI:l.all rI=true:=hI.symm
 have hord:∀ b∈DS (decide (0 < q)) l,rI b=true:=by
  have key:∀ (long:Bool) (m out:List bM),(∀ b∈out,rI b=true)->(∀ b∈m,rI b=true)->∀ b∈Ev long out m,rI b=true:=by
   intro long m
   induction m with
   | nil=>intro out h1 _;exact h1
   | cons x r ih =>
    intro out h1 h2;refine ih _ ?_ fun b hb=>h2 b (by simp [hb])
    intro b hb;rcases List.mem_append.1 hb with hb | hb
    ·exact h1 b (List.mem_of_mem_take hb)
    ·rcases List.mem_cons.1 hb with rfl | hb
     ·exact h2 b (by simp)
     ·exact h1 b (List.mem_of_mem_drop hb)
  exact key _ l [] (by simp) fun b hb=>List.all_eq_true.1 hI b hb
 rw [hI];clear hI;obtain ⟨o,ho⟩:=aH (DS (decide (0 < q)) l);rw [<- ho] at c2 hol hord |-;have hw0:IntKind.wrap .i64 (0-q) = -q:=by rw [bn (by omega) (by omega)];omega
 simp only [go_sem,seval,aJ,hdx,hw0];(with_reducible and_intros)<;>first|exact .dq|omega|skip
 refine aa.pure c2 ?_;simp only [go_sem,seval,aJ];(with_reducible and_intros)<;>first|exact .dq|omega|skip
 clear c2 hdx;refine aC.walk (S:=List dV × Int) o.length [9] [] (fun i s=>[(11,.int .i64 i),(8,.int .i64 s.2),(10,.ref 1296)]) (fun i s=>[(1296,.own 3 (s.1.map dV.cells))]) (fun i s=>(s.1++(lW s.2 (o.drop i)).1=(lW (max q (-q)) o).1/\(lW s.2 (o.drop i)).2=(lW (max q (-q)) o).2)/\s.1.length=i/\(0<=s.2/\s.2<=1099511627776)) ([],max q (-q)) ⟨⟨rfl,rfl⟩,rfl,by omega⟩ ?_ ?_ ?_
 ·simp only [go_sem,seval]<;>simp
 ·rintro i ⟨L,left⟩ hi hdi hwi ⟨⟨h1,h2⟩,h3,h4⟩
  dsimp only at h1 h2 h3 h4;have hm:=aG (c:=bM.cells) o hi;have hli:(i:Int) < (o.length:Int):=by omega
  have hxo:=hord _ (List.getElem_mem hi);obtain ⟨x,hx⟩:=aH (o[i]);rw [dN hi,<- hx] at h1 h2;rw [<- hx] at hm hxo;simp only [rI,within,cr,decide_eq_true_eq] at hxo;simp only [lW] at h1 h2;simp only [bM.cells] at hm
  by_cases q5:0 < left
  ·have d:decide (0 < left)=true:=decide_eq_true q5;rw [if_pos q5] at h1 h2;have hw:IntKind.wrap .i64 (left-min left x.bg)=left-min left x.bg:=bn (by omega) (by omega);simp only [go_sem,seval,aJ,hdi,hm,d,hw,hwi];(with_reducible and_intros)<;>first|exact .dq|omega|skip
   refine ah.step (L++[⟨x.src,min left x.bg,x.aX⟩],left-min left x.bg) hi ⟨⟨by rw [List.append_assoc];exact h1,h2⟩,by simp [h3],by dsimp only;omega⟩ ?_;simp only [go_sem,seval]<;>simp
  ·have d:decide (0 < left)=false:=decide_eq_false q5;rw [if_neg q5] at h1 h2;rw [List.append_nil] at h1;simp only [go_sem,seval,aJ,hdi,hm,d,if_true,<- h1,<- h2]
   all_goals simp
 ·rintro ⟨L,left⟩ hdx ⟨⟨h1,h2⟩,h3,h4⟩
  dsimp only at h1 h2;rw [List.drop_length] at h1 h2;simp only [lW,List.append_nil] at h1 h2;simp only [go_sem,seval,aJ,hdx,if_true,<- h1,<- h2]
  all_goals simp
def OW (q n:Int) (p:aB):Bool:=p.inst==n&&((decide (0 < q)&&decide (p.bg < 0))||(decide (q < 0)&&decide (0 < p.bg)))
def BR (q n:Int) (l:List aB):List Int:=pick (OW q n) aB.who l
def qw (q n:Int) (l:List aB):List Int:=pick (OW q n) (fun p=>max p.bg (-p.bg)) l
theorem HM (b:aF) (w n:Int) (hb:b.small) (hr:∀ p∈b.qs,-1099511627776<=p.bg/\p.bg<=1099511627776):Abs.Spec Tryz.prog 273 [] [.agg b.cells,.agg [.int .i64 w,.int .i64 n]] [.own 1 (ints (BR (posOf w n b.qs).bg n b.qs)),.own 1 (ints (qw (posOf w n b.qs).bg n b.qs))] (.bI [.ref 0,.ref 1]):=by
 have c1:=nU b w n hb;have hbl:=hb.2;obtain ⟨p,hp⟩:=aH (posOf w n b.qs);rw [<- hp] at c1 |-;simp only [aF.cells,aB.cells] at c1 |-;clear hp;refine bu 68 2 [.tmp 4,.tmp 5] mixed Tryz.func273 ?_;simp only [go_sem,seval];(with_reducible and_intros)<;>first|exact .dq|omega|skip
 refine aa.pure c1 ?_;simp only [go_sem,seval,aJ];(with_reducible and_intros)<;>first|exact .dq|omega|skip
 clear c1;refine aC.walk (S:=Unit) b.qs.length [2,3,6] [48,64] (fun i _=>[(9,.int .i64 i),(7,.ref 912),(8,.ref 1056)]) (fun i _=>[(912,.own 1 (ints (BR p.bg n (b.qs.take i)))),(1056,.own 1 (ints (qw p.bg n (b.qs.take i))))]) (fun _ _=>True) () trivial ?_ ?_ ?_
 ·simp only [go_sem,seval]<;>simp [BR,qw,pick,ints]
 ·intro i _ hi hdi hwi _;have hm:=aG (c:=aB.cells) b.qs hi;have hs1:ints (BR p.bg n (b.qs.take (i+1)))=ints (BR p.bg n (b.qs.take i))++_:=fU (OW p.bg n) aB.who hi;have hs2:ints (qw p.bg n (b.qs.take (i+1)))=ints (qw p.bg n (b.qs.take i))++_:=fU (OW p.bg n) (fun p=>max p.bg (-p.bg)) hi;have hl1:(BR p.bg n (b.qs.take i)).length<=(b.qs.take i).length:=bW _ _ _;have hl2:(qw p.bg n (b.qs.take i)).length<=(b.qs.take i).length:=bW _ _ _;have hlt:(b.qs.take i).length=i:=by simp;omega
  have hli:(i:Int) < (b.qs.length:Int):=by omega
  have hxr:=hr _ (List.getElem_mem hi);obtain ⟨L,hL⟩:=aH (BR p.bg n (b.qs.take i));obtain ⟨M,hM⟩:=aH (qw p.bg n (b.qs.take i));obtain ⟨x,hx⟩:=aH (b.qs[i]);rw [<- hL] at hs1 hl1;rw [<- hM] at hs2 hl2;rw [<- hx] at hs1 hs2 hm hxr;rw [<- hL,<- hM];have hw0:IntKind.wrap .i64 (0-x.bg) = -x.bg:=by rw [bn (by omega) (by omega)];omega
  simp only [OW] at hs1 hs2;simp only [aB.cells] at hm;cases q1:x.inst==n
  ·simp only [q1,Bool.false_and,fZ,if_false,List.append_nil] at hs1 hs2;simp only [go_sem,seval,aJ,hdi,hm,q1,hwi];(with_reducible and_intros)<;>first|exact .dq|omega|skip
   refine ah.step () hi trivial ?_;simp only [go_sem,seval,hs1,hs2]
  cases q2:decide (0 < p.bg)<;>cases q3:decide (x.bg < 0)<;>cases q4:decide (p.bg < 0)<;>cases q5:decide (0 < x.bg)<;>(
   simp only [q1,q2,q3,q4,q5,Bool.true_and,Bool.false_and,Bool.and_self,Bool.and_false,Bool.or_self,Bool.or_false,Bool.false_or,Bool.or_true,Bool.true_or,fZ,if_false,if_true,List.append_nil] at hs1 hs2;simp only [go_sem,seval,aJ,hdi,hm,q1,q2,q3,q4,q5,hw0,hwi,av];(with_reducible and_intros)<;>first|exact .dq|omega|skip
   refine ah.step () hi trivial ?_
   simp only [go_sem,seval,hs1,hs2])
 ·intro _ hdx _;simp only [go_sem,seval,aJ,hdx,List.take_length]
theorem FC (b:aF) (w n:Int) (hb:b.small) (hr:∀ p∈b.qs,-1099511627776<=p.bg/\p.bg<=1099511627776):Abs.Spec Tryz.prog 273 [] [.agg b.cells,.agg [.int .i64 w,.int .i64 n]] [] (.bI [.sl 1 (ints (BR (posOf w n b.qs).bg n b.qs)),.sl 1 (ints (qw (posOf w n b.qs).bg n b.qs))]):=by
 refine Spec.frozen (HM b w n hb hr) [0,1] rfl ?_;intro r;rcases r with _ | _ | r<;>rfl
theorem J9 (q:Int) (l:List bM) (hl:l.length < 2 ^ 28):Abs.Spec Tryz.prog 264 [] [.int .i64 q,.sl 5 (l.map bM.cells)] [] (.bI [.sl 3 ((kN q l).1.map dV.cells),.int .i64 (kN q l).2,.int .i64 (qO q l)]):=by
 refine Spec.frozen (NP q l hl) [0] rfl ?_;intro r;rcases r with _ | r<;>rfl
def Bi (f:dV):Bool:=within f.bg 0 1099511627776&&within f.aX 0 1073741824
def Jx (long:Bool) (n:Int):Int:=if long then n else -n
def wQ (w n:Int) (long:Bool) (f:dV):List aB:=[⟨f.src,n,Jx long f.bg,Jx long (f.bg*f.aX)⟩,⟨w,n,-Jx long f.bg,-Jx long (f.bg*f.aX)⟩]
def kG (l:List dV):Int:=if l.all Bi then (if l.all fun f=>bL (f.bg*f.aX) then 0 else 1) else 3
def lu (w n:Int) (long:Bool) (l:List dV):List aB:=if kG l=0 then l.flatMap (wQ w n long) else []
theorem HL (w n:Int) (long:Bool) (l:List dV) (hl:l.length < 2 ^ 28):Abs.Spec Tryz.prog 265 [] [.agg [.int .i64 w,.int .i64 n],.bool long,.sl 3 (l.map dV.cells)] [.own 4 ((lu w n long l).map aB.cells)] (.bI [.ref 0,.int .i64 (kG l)]):=by
 simp only [lu];refine bu 86 3 [.tmp 6,.tmp 7] mixed Tryz.func265 ?_;simp only [go_sem,seval,aJ];refine aC.walk (S:=Unit) l.length [1,2,3] [64] (fun i _=>[(8,.int .i64 i)]) (fun _ _=>[]) (fun i _=>(l.drop i).all Bi=l.all Bi) () rfl ?_ ?_ ?_
 ·simp only [go_sem,seval]<;>simp
 ·intro i _ hi hdi hwi hI;have hm:=aG (c:=dV.cells) l hi;have hli:(i:Int) < (l.length:Int):=by omega
  obtain ⟨x,hx⟩:=aH (l[i]);have k1:=fL x.bg 0 1099511627776;have k2:=fL x.aX 0 1073741824;rw [dN hi,<- hx] at hI;rw [<- hx] at hm;simp only [List.all_cons,Bi] at hI;simp only [dV.cells] at hm;simp only [go_sem,seval,aJ,hdi,hm];(with_reducible and_intros)<;>first|exact .dq|omega|skip
  refine aa.pure k1 ?_;cases q1:within x.bg 0 1099511627776
  ·rw [q1,Bool.false_and,Bool.false_and] at hI;have hI':kG l=3:=by simp only [kG];rw [show l.all Bi=false from hI.symm];rfl
   simp only [go_sem,seval,q1,hI']<;>simp
  simp only [go_sem,seval,q1,aJ,hm];(with_reducible and_intros)<;>first|exact .dq|omega|skip
  refine aa.pure k2 ?_;cases q2:within x.aX 0 1073741824
  ·rw [q1,q2,Bool.and_false,Bool.false_and] at hI;have hI':kG l=3:=by simp only [kG];rw [show l.all Bi=false from hI.symm];rfl
   simp only [go_sem,seval,q2,hI']<;>simp
  rw [q1,q2,Bool.and_self,Bool.true_and] at hI;simp only [go_sem,seval,q2,hwi];refine ah.step () hi hI ?_;simp only [go_sem,seval]
 intro _ hdx hI;rw [List.drop_length] at hI;have hI:l.all Bi=true:=hI.symm;have hall:∀ f∈l,Bi f=true:=List.all_eq_true.1 hI;have e:kG l=if l.all fun f=>bL (f.bg*f.aX) then 0 else 1:=by simp [kG,hI]
 rw [e];clear e hI;simp only [go_sem,seval,aJ,hdx];clear hdx;refine aC.walk (S:=Unit) l.length [1,2,3] [64] (fun i _=>[(10,.int .i64 i),(9,.ref 1360)]) (fun i _=>[(1360,.own 4 (((l.take i).flatMap (wQ w n long)).map aB.cells))]) (fun i _=>((l.drop i).all fun f=>bL (f.bg*f.aX))=l.all fun f=>bL (f.bg*f.aX)) () rfl ?_ ?_ ?_
 ·simp only [go_sem,seval]<;>simp
 ·intro i _ hi hdi hwi hI;have hm:=aG (c:=dV.cells) l hi;have hli:(i:Int) < (l.length:Int):=by omega
  have hs:=gG (wQ w n long) hi;have hnl:=fF (f:=wQ w n long) (m:=2) (fun f=>by simp [wQ]) (l.take i);have hlt:(l.take i).length=i:=by simp;omega
  have hxo:=hall _ (List.getElem_mem hi);obtain ⟨L,hL⟩:=aH ((l.take i).flatMap (wQ w n long));obtain ⟨x,hx⟩:=aH (l[i]);rw [<- hL] at hs hnl |-;rw [dN hi,<- hx,List.all_cons] at hI;rw [<- hx] at hs hm hxo;simp only [Bi,within,cr,decide_eq_true_eq] at hxo;have c1:=Du x.bg x.aX ⟨by omega,by omega⟩ ⟨by omega,by omega⟩;simp only [wQ] at hs;obtain ⟨C,hC⟩:=aH (x.bg*x.aX);rw [<- hC] at c1 hI hs;simp only [dV.cells] at hm;simp only [go_sem,seval,aJ,hdi,hm];(with_reducible and_intros)<;>first|exact .dq|omega|skip
  refine aa.pure c1 ?_;cases q1:bL C
  ·rw [q1,Bool.false_and] at hI;rw [<- hI];simp only [go_sem,seval,q1]
   all_goals simp
  have hCr:=cg.1 q1;rw [q1,Bool.true_and] at hI;have w1:IntKind.wrap .i64 (0-x.bg) = -x.bg:=by rw [bn (by omega) (by omega)];omega
  have w2:IntKind.wrap .i64 (0-C) = -C:=by rw [bn (by omega) (by omega)];omega
  have w3:IntKind.wrap .i64 (0 - -x.bg) = - -x.bg:=by rw [bn (by omega) (by omega)];omega
  have w4:IntKind.wrap .i64 (0 - -C) = - -C:=by rw [bn (by omega) (by omega)];omega
  cases long
  ·simp only [Jx,fZ,if_false] at hs;simp only [go_sem,seval,q1,aJ,hm,w1,w2,w3,w4,hwi,if_true];(with_reducible and_intros)<;>first|exact .dq|omega|skip
   refine ah.step () hi hI ?_;simp only [go_sem,seval,hs]<;>simp
  ·simp only [Jx,if_true] at hs;simp only [go_sem,seval,q1,aJ,hm,w1,w2,w3,w4,hwi,if_true];(with_reducible and_intros)<;>first|exact .dq|omega|skip
   refine ah.step () hi hI ?_;simp only [go_sem,seval,hs]<;>simp
 ·intro _ hdx hI;rw [List.drop_length] at hI;rw [<- hI];simp only [go_sem,seval,aJ,hdx,List.take_length];(with_reducible and_intros)<;>first|exact .dq|omega|skip
  all_goals simp
theorem uA (w n:Int) (long:Bool) (l:List dV) (hl:l.length < 2 ^ 28):Abs.Spec Tryz.prog 265 [] [.agg [.int .i64 w,.int .i64 n],.bool long,.sl 3 (l.map dV.cells)] [] (.bI [.sl 4 ((lu w n long l).map aB.cells),.int .i64 (kG l)]):=by
 refine Spec.frozen (HL w n long l hl) [0] rfl ?_;intro r;rcases r with _ | r<;>rfl
theorem Fx (t:Int) (l:List Int) (hl:l.length < 2 ^ 30):Abs.Spec Tryz.prog 253 [] [.int .i64 t,.sl 1 (ints l)] [] (.bI [.sl 1 (ints (if tI t l=0 then BY t l else [])),.int .i64 (if tI t l=0 then JW t l else 0),.int .i64 (tI t l)]):=by
 refine Spec.frozen (Hx t l hl) [0] rfl ?_;intro r;rcases r with _ | r<;>rfl
def nF (c iy:Int) (caps:List Int):Int:=if (within c 0 2&&caps.length==5)&&(within iy 0 4611686018427387904&&tI iy caps==0) then 0 else 3
def N8 (c iy rest:Int) (g:List Int):eY:=⟨c,iy,g.getD 0 0,g.getD 1 0,g.getD 2 0,g.getD 3 0,g.getD 4 0,rest⟩
def uR (c iy:Int) (caps:List Int):eY:=if nF c iy caps=0 then N8 c iy (JW iy caps) (BY iy caps) else ⟨0,0,0,0,0,0,0,0⟩
theorem L7:∀ (l:List Int) (t:Int),(BY t l).length=l.length
 | [],_=>rfl
 | c :: r,t=>by simp only [BY,List.length_cons,L7 r]
def Tk (g:List Int) (i:Nat):List D:=[.int .i64 (if 0 < i then g.getD 0 0 else 0),.int .i64 (if 1 < i then g.getD 1 0 else 0),.int .i64 (if 2 < i then g.getD 2 0 else 0),.int .i64 (if 3 < i then g.getD 3 0 else 0),.int .i64 (if 4 < i then g.getD 4 0 else 0)]
theorem KJ (c iy:Int) (caps:List Int) (hl:caps.length < 2 ^ 30):Abs.Spec Tryz.prog 206 [] [.int .i64 c,.int .i64 iy,.sl 1 (ints caps)] [] (.bI [.agg (uR c iy caps).cells,.int .i64 (nF c iy caps)]):=by
 have c1:=fK c;have c2:=fL iy 0 4611686018427387904;have c3:=Fx iy caps hl;refine bu 53 3 [.cell 6 292,.tmp 7] mixed Tryz.func206 ?_;simp only [go_sem,seval];(with_reducible and_intros)<;>first|exact .dq|omega|skip
 refine aa.pure c1 ?_;cases b1:within c 0 2
 ·have e:nF c iy caps=3:=by simp [nF,b1]
  simp only [go_sem,seval,uR,e,eY.cells]<;>simp
 by_cases b2:caps.length=5
 case neg =>
  have d:(((caps.length:Nat):Int)==5)=false:=by simp;omega
  have e:nF c iy caps=3:=by simp [nF,b2]
  simp only [go_sem,seval,av,bne,d,uR,e,eY.cells]<;>simp
 have d2:(((caps.length:Nat):Int)==5)=true:=by simp;omega
 simp only [go_sem,seval,av,bne,d2];(with_reducible and_intros)<;>first|exact .dq|omega|skip
 refine aa.pure c2 ?_;cases b3:within iy 0 4611686018427387904
 ·have e:nF c iy caps=3:=by simp [nF,b3]
  simp only [go_sem,seval,uR,e,eY.cells]<;>simp
 simp only [go_sem,seval];(with_reducible and_intros)<;>first|exact .dq|omega|skip
 refine aa.pure c3 ?_
 by_cases b4:tI iy caps=0
 case neg =>
  have d:(tI iy caps==0)=false:=by simpa using b4
  have e:nF c iy caps=3:=by simp [nF,d]
  rw [if_neg b4,if_neg b4];simp only [go_sem,seval,bne,d,uR,e,eY.cells]<;>simp
 have e:nF c iy caps=0:=by simp [nF,b1,b2,b3,b4]
 have hgl:(BY iy caps).length=5:=by rw [L7,b2]
 simp only [uR,e,if_true];rw [b4,if_pos rfl,if_pos rfl];obtain ⟨g,hg⟩:=aH (BY iy caps);obtain ⟨T,hT⟩:=aH (JW iy caps);rw [<- hg] at hgl |-;rw [<- hT];clear hg hT c1 c2 c3 e;simp only [go_sem,seval];(with_reducible and_intros)<;>first|exact .dq|omega|skip
 refine aC.walk (S:=Unit) 5 [6,8,11] [112] (fun i _=>[(12,.int .i64 i)]) (fun i _=>[(192,.box ([.int .i64 c,.int .i64 iy]++Tk g i++[.int .i64 T]))]) (fun _ _=>True) () trivial ?_ ?_ ?_
 ·simp only [go_sem,seval,Tk]<;>simp
 ·intro i _ hi hdi hwi _;have hdi:decide ((i:Int) < 5)=true:=hdi;have hi':i < g.length:=by omega
  have hm:=ints_at g hi';have hg:g[i]=g.getD i 0:=by simp [hi']
  rw [hg] at hm;have hli:(i:Int) < (g.length:Int):=by omega
  obtain rfl | rfl | rfl | rfl | rfl:i=0\/i=1\/i=2\/i=3\/i=4:=by omega
  all_goals
   simp only [Tk,List.cons_append,List.nil_append];simp only [go_sem,seval,hdi,av,hm,hwi];(with_reducible and_intros)<;>first|exact .dq|omega|skip
   refine ah.step () hi trivial ?_;simp only [go_sem,seval,Tk]
   all_goals rfl
 ·intro _ hdx _;simp only [go_sem,seval,Tk,N8,eY.cells]
  all_goals simp
theorem V5 (X Y:Int):(X / 18446744073709551616 < Y / 18446744073709551616\/(X / 18446744073709551616=Y / 18446744073709551616/\X%18446744073709551616 < Y%18446744073709551616)) ↔ X < Y:=by omega
theorem tL (X Y:Int):Abs.Spec Tryz.prog 277 [] [.agg (wd X),.agg (wd Y)] [] (.bool (decide (X < Y))):=by
 have h:=V5 X Y;simp only [wd];refine bu 24 2 [.tmp 4] mixed Tryz.func277 ?_;obtain ⟨a,ha⟩:=aH (X / 18446744073709551616);obtain ⟨b,hb⟩:=aH (Y / 18446744073709551616);obtain ⟨c,hc⟩:=aH (X%18446744073709551616);obtain ⟨d,hd⟩:=aH (Y%18446744073709551616);rw [<- ha,<- hb,<- hc,<- hd] at h;rw [<- ha,<- hb,<- hc,<- hd];clear ha hb hc hd
 have he:decide (X < Y)=(decide (a < b)||(a==b&&decide (c < d))):=by
  rw [Bool.eq_iff_iff];simp only [decide_eq_true_eq,Bool.or_eq_true,cr,beq_iff_eq];exact h.symm
 rw [he];clear he h;cases q1:decide (a < b)
 ·cases q2:a==b
  ·simp only [go_sem,seval,q1,q2,Bool.false_or,Bool.false_and]
   all_goals (with_reducible and_intros)<;>first|exact .dq|omega|skip
  ·simp only [go_sem,seval,q1,q2,Bool.false_or,Bool.true_and]
   all_goals (with_reducible and_intros)<;>first|exact .dq|omega|skip
 ·simp only [go_sem,seval,q1,Bool.true_or]
  all_goals (with_reducible and_intros)<;>first|exact .dq|omega|skip
theorem VV (X Y:Int) (h:-42535295865117307932921825928971026432<=X/\X<=42535295865117307932921825928971026432) (h':-42535295865117307932921825928971026432<=Y/\Y<=42535295865117307932921825928971026432) :
  IntKind.wrap .i64 ((X / 18446744073709551616%18446744073709551616+Y / 18446744073709551616%18446744073709551616+(X%18446744073709551616+Y%18446744073709551616+0) / 18446744073709551616)%18446744073709551616)=(X+Y) / 18446744073709551616:=by
 have h1:=Kr X Y;rw [h1];obtain ⟨z,hz⟩:=aH ((X+Y) / 18446744073709551616);have hzr:-9223372036854775808<=z/\z < 9223372036854775808:=by omega
 rw [<- hz,IntKind.wrap_i64];omega
theorem Tx (X Y:Int):((decide (X / 18446744073709551616 < 0) != decide (Y / 18446744073709551616 < 0))||(decide ((X+Y) / 18446744073709551616 < 0)==decide (X / 18446744073709551616 < 0)))=true:=by
 by_cases h1:X / 18446744073709551616 < 0<;>by_cases h2:Y / 18446744073709551616 < 0
 ·have h3:(X+Y) / 18446744073709551616 < 0:=by omega
  simp [h1,h2,h3]
 ·simp [h1,h2]
 ·simp [h1,h2]
 ·have h3:¬ (X+Y) / 18446744073709551616 < 0:=by omega
  simp [h1,h2,h3]
theorem HV (X Y:Int) (h:-42535295865117307932921825928971026432<=X/\X<=42535295865117307932921825928971026432) (h':-42535295865117307932921825928971026432<=Y/\Y<=42535295865117307932921825928971026432):Abs.Spec Tryz.prog 279 [] [.agg (wd X),.agg (wd Y)] [] (.bI [.agg (wd (X+Y)),.bool true]):=by
 have hux:IntKind.wrap .u64 (X / 18446744073709551616)=(X / 18446744073709551616)%18446744073709551616:=IntKind.wrap_u64 _;have huy:IntKind.wrap .u64 (Y / 18446744073709551616)=(Y / 18446744073709551616)%18446744073709551616:=IntKind.wrap_u64 _;have e1:=KU X Y;have e2:=VV X Y h h';have e3:=Tx X Y;obtain ⟨p,hp⟩:=aH (decide (X / 18446744073709551616 < 0));obtain ⟨q,hq⟩:=aH (decide (Y / 18446744073709551616 < 0));obtain ⟨s,hs⟩:=aH (decide ((X+Y) / 18446744073709551616 < 0));rw [<- hp,<- hq,<- hs] at e3;simp only [wd];refine bu 50 2 [.cell 4 117,.tmp 5] mixed Tryz.func279 ?_;simp only [go_sem,seval];refine aa.sem rfl ?_
 with_reducible refine lS.tK (k:=91) (fn:=Tryz.f91) (i:=X%18446744073709551616) (j:=Y%18446744073709551616) (m:=0) ?_ Tryz.func91 ?_ ?_ jj iY ?_ ?_ ?_ ?_ ?_ ?_ ?_ ?_ ?_
 iterate 11 (first | rfl | omega)
 simp only [go_sem,seval,hux,huy];refine aa.sem rfl ?_
 with_reducible refine lS.tK (k:=91) (fn:=Tryz.f91) (i:=X / 18446744073709551616%18446744073709551616) (j:=Y / 18446744073709551616%18446744073709551616) (m:=(X%18446744073709551616+Y%18446744073709551616+0) / 18446744073709551616) ?_ Tryz.func91 ?_ ?_ jj iY ?_ ?_ ?_ ?_ ?_ ?_ ?_ ?_ ?_
 iterate 11 (first | rfl | omega)
 simp only [go_sem,seval,e1,e2,<- hp,<- hq,<- hs];cases p<;>cases q<;>cases s<;>(try (exact absurd e3 (by decide)))
 all_goals simp only [go_sem,seval,bne,beq_self_eq_true,Bool.not_true]
 all_goals (with_reducible and_intros)<;>first|exact .dq|omega|skip
 all_goals (rw [<- hs,<- hp];rfl)
theorem ad' (h:Int) (h0:0<=h) (h1:h < 4611686018427387904):DJ .i64 h 1=2*h:=by
 unfold DJ;have h2:min (Int.toNat 1) (IntKind.bits .i64)=1:=by simp [IntKind.bits]
 rw [h2,IntKind.wrap_i64];omega
theorem aiI (h c:Int) (h0:0<=h) (h1:h < 4611686018427387904) (hc:0<=c/\c<=1):ior .i64 (2*h) c=2*h+c:=by
 obtain ⟨n,rfl⟩:∃ n:Nat,h=n:=⟨h.toNat,by omega⟩
 obtain ⟨m,rfl⟩:∃ m:Nat,c=m:=⟨c.toNat,by omega⟩
 unfold ior;rw [BitVec.toNat_or,BitVec.toNat_ofInt,BitVec.toNat_ofInt];simp only [IntKind.bits];have e1:((2*(n:Int))%((2 ^ 64:Nat):Int)).toNat=2 ^ 1*n:=by omega
 have e2:((m:Int)%((2 ^ 64:Nat):Int)).toNat=m:=by omega
 rw [e1,e2,<- Nat.two_pow_add_eq_or_of_lt (by omega:m < 2 ^ 1),IntKind.wrap_i64];omega
theorem aek (l:Int) (h0:0<=l):DJ .u64 l 1=l*2%18446744073709551616:=by
 unfold DJ;have h2:min (Int.toNat 1) (IntKind.bits .u64)=1:=by simp [IntKind.bits]
 rw [h2,IntKind.wrap_u64];rfl
theorem aaZ (l:Int) (h0:0<=l):BP .u64 l 63=l / 9223372036854775808:=by
 have:=RY l.toNat 63 (by omega);rw [Int.toNat_of_nonneg h0] at this;have e:((63:Nat):Int)=63:=rfl;rw [e] at this;rw [this];have e2:(2:Nat) ^ 63=9223372036854775808:=by decide
 rw [e2];omega
def WI (s:Int):Bool:=decide (4611686018427387904<=s / 18446744073709551616)
def JQ:Nat->Int->Int
 | 0,s=>s
 | k+1,s=>if WI s then s else JQ k (2*s)
def FG:Nat->Int->Bool
 | 0,_=>true
 | k+1,s=>if WI s then false else FG k (2*s)
theorem IT:∀ {k:Nat} {s:Int},FG k s=true->JQ k s=s*2 ^ k
 | 0,s,_=>by simp [JQ]
 | k+1,s,h=>by
  simp only [FG] at h;split at h
  ·cases h
  ·rename_i hb;simp only [JQ,if_neg hb];rw [IT h,Int.mul_comm 2 s,Int.mul_assoc,Int.pow_succ,Int.mul_comm 2]
theorem EX:∀ {k:Nat} {s:Int},0<=s->FG k s=false->85070591730234615865843651857942052864<=s*2 ^ k
 | 0,s,_,h=>by cases h
 | k+1,s,h0,h=>by
  simp only [FG] at h;split at h
  ·rename_i hb;simp only [WI,decide_eq_true_eq] at hb;have h3:1<=(2:Nat) ^ (k+1):=Nat.one_le_two_pow
   have h1:(1:Int)<=2 ^ (k+1):=by
    have e:((2 ^ (k+1):Nat):Int)=(2:Int) ^ (k+1):=by push_cast;rfl
    rw [<- e];omega
   have h2:s*1<=s*2 ^ (k+1):=Int.mul_le_mul_of_nonneg_left h1 h0;omega
  ·have:=EX (k:=k) (s:=2*s) (by omega) h;rw [Int.pow_succ,<- Int.mul_assoc,Int.mul_comm (s*2 ^ k) 2,<- Int.mul_assoc];exact this
theorem Uv (s:Int) (h0:0<=s) (h1:s / 18446744073709551616 < 4611686018427387904):2*(s / 18446744073709551616)+s%18446744073709551616 / 9223372036854775808=2*s / 18446744073709551616:=by omega
theorem UT (s:Int):s%18446744073709551616*2%18446744073709551616=2*s%18446744073709551616:=by omega
theorem HU (X:Int) (k:Nat) (h0:0<=X) (hk:k < 100) (hX:X < 170141183460469231731687303715884105728):Abs.Spec Tryz.prog 278 [] [.agg (wd X),.int .i64 k] [] (.bI [.agg (wd (JQ k X)),.bool (FG k X)]):=by
 simp only [wd];refine bu 29 2 [.cell 4 117,.tmp 5] mixed Tryz.func278 ?_;simp only [go_sem,seval];refine aC.walk (S:=Int) k [1,2,4] [80] (fun i _=>[(6,.int .i64 i)]) (fun _ s=>[(48,.box [.int .i64 (s / 18446744073709551616),.int .u64 (s%18446744073709551616)])]) (fun i s=>(JQ (k-i) s=JQ k X/\FG (k-i) s=FG k X)/\0<=s/\s < 170141183460469231731687303715884105728) X ⟨⟨rfl,rfl⟩,h0,hX⟩ ?_ ?_ ?_
 ·simp only [go_sem,seval]<;>simp
 ·rintro i s hi hdi hwi ⟨⟨h1,h2⟩,h3,h4⟩
  obtain ⟨m,hm⟩:∃ m,k-i=m+1:=⟨k-i-1,by omega⟩
  have hm2:k-(i+1)=m:=by omega
  rw [hm] at h1 h2;simp only [JQ,FG] at h1 h2;cases hb:WI s
  case true =>
   have d:decide (4611686018427387904<=s / 18446744073709551616)=true:=hb;rw [hb,if_pos rfl] at h1 h2;rw [<- h1,<- h2];simp only [go_sem,seval,hdi,d]
  have d:decide (4611686018427387904<=s / 18446744073709551616)=false:=hb;have hlt:s / 18446744073709551616 < 4611686018427387904:=by simpa using d
  rw [hb,if_neg (by simp)] at h1 h2;have e1:=ad' (s / 18446744073709551616) (by omega) hlt;have e2:=aaZ (s%18446744073709551616) (by omega);have hcr:0<=s%18446744073709551616 / 9223372036854775808/\s%18446744073709551616 / 9223372036854775808<=1:=by omega
  have e3:IntKind.wrap .i64 (s%18446744073709551616 / 9223372036854775808)=s%18446744073709551616 / 9223372036854775808:=bn (by omega) (by omega);have e4:=aiI (s / 18446744073709551616) (s%18446744073709551616 / 9223372036854775808) (by omega) hlt hcr;have e5:=aek (s%18446744073709551616) (by omega);rw [UT] at e5;rw [Uv s h3 hlt] at e4;simp only [go_sem,seval,hdi,d,e1,e2,e3,e4,e5,hwi];(with_reducible and_intros)<;>first|exact .dq|omega|skip
  refine ah.step (2*s) hi ⟨⟨by rw [hm2];exact h1,by rw [hm2];exact h2⟩,by omega,by omega⟩ ?_;simp only [go_sem,seval]
 ·rintro s hdx ⟨⟨h1,h2⟩,h3,h4⟩
  rw [Nat.sub_self] at h1 h2;simp only [JQ,FG] at h1 h2;rw [<- h1,<- h2];simp only [go_sem,seval,hdx]
theorem XO:∀ {k:Nat},k<=62->(2:Int) ^ k<=4611686018427387904/\1<=(2:Int) ^ k:=by
 intro k hk;have h1:(2:Nat) ^ k<=2 ^ 62:=Nat.pow_le_pow_right (by decide) hk;have h2:(2:Nat) ^ 62=4611686018427387904:=by decide
 have h3:1<=(2:Nat) ^ k:=Nat.one_le_two_pow;have e:((2 ^ k:Nat):Int)=(2:Int) ^ k:=by push_cast;rfl
 rw [<- e];omega
theorem Wk {k:Nat} (hk:k<=62):DJ .i64 1 (k:Int)=(2:Int) ^ k:=by
 have h:=XO hk;unfold DJ;have h1:min (Int.toNat (k:Int)) (IntKind.bits .i64)=k:=by simp [IntKind.bits];omega
 rw [h1,Int.one_mul];exact bn (by omega) (by omega)
theorem FN (X Y:Int) (h0:0<=X) (hX:X < 42535295865117307932921825928971026432) (hY:1<=Y) (hY2:Y < 42535295865117307932921825928971026432) (hq:X < Y*9223372036854775808):Abs.Spec Tryz.prog 276 [] [.agg (wd X),.agg (wd Y)] [] (.bI [.int .i64 (X / Y),.agg (wd (X%Y))]):=by
 have cS:=fun k hk=>HU Y k (by omega) hk (by omega)
 have cL:=fun a b=>tL a b
 simp only [wd] at cS cL;simp only [wd];refine bu 42 2 [.tmp 4,.cell 5 117] mixed Tryz.func276 ?_;simp only [go_sem,seval]
 refine aC.walk (S:=Int × Int) 63 [3,5,7] [64,96] (fun i s=>[(8,.int .i64 ((62:Int)-i)),(6,.int .i64 s.1)]) (fun _ s=>[(128,.box [.int .i64 (s.2 / 18446744073709551616),.int .u64 (s.2%18446744073709551616)])])
  (fun i s=>(0<=s.2/\s.2 < Y*2 ^ (63-i))/\s.1*Y+s.2=X/\0<=s.1) (0,X) ⟨⟨h0,hq⟩,by simp,by simp⟩ ?_ ?_ ?_
 ·simp only [go_sem,seval]<;>simp
 ·rintro i ⟨q,r⟩ hi _ _ ⟨⟨h1,h2⟩,h3,h4⟩
  dsimp only at h1 h2 h3 h4;obtain ⟨k,hk⟩:∃ k,62-i=k:=⟨_,rfl⟩
  have hki:(62:Int)-(i:Int)=(k:Int):=by omega
  have hk1:63-i=k+1:=by omega
  have hk2:63-(i+1)=k:=by omega
  have hd:decide (0<=(k:Int))=true:=decide_eq_true (by omega);have hw:IntKind.wrap .i64 ((k:Int)-1)=(62:Int)-((i+1:Nat):Int):=by rw [bn (by omega) (by omega)];omega
  have cS:=cS k (by omega);have hone:=Wk (k:=k) (by omega);have hpw:=XO (k:=k) (by omega);obtain ⟨Q,hQ⟩:=aH ((2:Int) ^ k);rw [hk1,Int.pow_succ,<- hQ] at h2;rw [<- hQ] at hone hpw;obtain ⟨Z,hZ⟩:=aH (Y*Q);have h2:r < 2*Z:=by rw [hZ];rw [<- Int.mul_assoc] at h2;omega
  have hrX:r<=X:=by
   have:=Int.mul_nonneg h4 (show 0<=Y by omega);omega
  rw [hki];cases hE:FG k Y
  ·have hbig:=EX (by omega) hE;rw [<- hQ,<- hZ] at hbig;rw [hE] at cS;simp only [go_sem,seval,hd];(with_reducible and_intros)<;>first|exact .dq|omega|skip
   refine aa.pure cS ?_;simp only [go_sem,seval,hw];(with_reducible and_intros)<;>first|exact .dq|omega|skip
   refine ah.step (q,r) hi ⟨⟨h1,by rw [hk2,<- hQ,<- hZ];dsimp only;omega⟩,h3,h4⟩ ?_;simp only [go_sem,seval]
  have hV:=IT hE;rw [<- hQ,<- hZ] at hV;rw [hE,hV] at cS;have cL:=cL r Z;simp only [go_sem,seval,hd];(with_reducible and_intros)<;>first|exact .dq|omega|skip
  refine aa.pure cS ?_;simp only [go_sem,seval];(with_reducible and_intros)<;>first|exact .dq|omega|skip
  refine aa.pure cL ?_
  by_cases hl:r < Z
  ·have d:decide (r < Z)=true:=decide_eq_true hl;simp only [go_sem,seval,d,hw];(with_reducible and_intros)<;>first|exact .dq|omega|skip
   refine ah.step (q,r) hi ⟨⟨h1,by rw [hk2,<- hQ,<- hZ];exact hl⟩,h3,h4⟩ ?_;simp only [go_sem,seval]
  have d:decide (r < Z)=false:=decide_eq_false hl;have hZ0:0<=Z:=by rw [hZ];exact Int.mul_nonneg (by omega) (by omega)
  have cN:=afN Z (by omega);have cA:=HV r (-Z) (by omega) (by omega);have e1:r + -Z=r-Z:=by omega
  have e2:(q+Q)*Y+(r-Z)=X:=by rw [Int.add_mul,Int.mul_comm Q Y,<- hZ];omega
  have e3:q+Q < 9223372036854775808:=by
   rcases Int.lt_or_le (q+Q) 9223372036854775808 with h | h
   ·exact h
   ·have:=Int.mul_le_mul_of_nonneg_right h (show 0<=Y by omega);rw [Int.mul_comm 9223372036854775808 Y] at this;omega
  have e4:IntKind.wrap .i64 (q+Q)=q+Q:=bn (by omega) e3;rw [e1] at cA;simp only [wd] at cN cA;simp only [go_sem,seval,d];(with_reducible and_intros)<;>first|exact .dq|omega|skip
  refine aa.pure cN ?_;simp only [go_sem,seval];(with_reducible and_intros)<;>first|exact .dq|omega|skip
  refine aa.pure cA ?_;simp only [go_sem,seval,hone,e4,hw];(with_reducible and_intros)<;>first|exact .dq|omega|skip
  refine ah.step (q+Q,r-Z) hi ⟨⟨by dsimp only;omega,by rw [hk2,<- hQ,<- hZ];dsimp only;omega⟩,e2,by dsimp only;omega⟩ ?_;simp only [go_sem,seval]
 ·rintro ⟨q,r⟩ _ ⟨⟨h1,h2⟩,h3,h4⟩
  dsimp only at h1 h2 h3 h4;rw [Nat.sub_self,Int.pow_zero,Int.mul_one] at h2
  have eq:X / Y=q:=by
   rw [<- h3,Int.add_comm,Int.add_mul_ediv_right _ _ (by omega),Int.ediv_eq_zero_of_lt h1 h2];omega
  have er:X%Y=r:=by
   rw [<- h3,Int.add_comm,Int.add_mul_emod_self_right,Int.emod_eq_of_lt h1 h2]
  rw [eq,er];have hx:(62:Int)-((63:Nat):Int) = -1:=by omega
  rw [hx];simp only [go_sem,seval];(with_reducible and_intros)<;>first|exact .dq|omega|skip
def w6 (t W:Int) (ws:List Int):List Int:=ws.map fun w=>t*w / W
def P7 (t W:Int) (ws:List Int):List Int:=ws.map fun w=>t*w%W
def gT (rs:List Int) (gs:List Bool):Nat->Int
 | 0=>-1
 | i+1=>if !(gs.getD i true)&&(decide (gT rs gs i < 0)||decide (rs.getD (gT rs gs i).toNat 0 < rs.getD i 0)) then (i:Int) else gT rs gs i
def pM (rs:List Int):Nat->List Bool->List Int->List Int
 | 0,_,ps=>ps
 | n+1,gs,ps=>pM rs n (gs.set (gT rs gs rs.length).toNat true) (ps.set (gT rs gs rs.length).toNat (ps.getD (gT rs gs rs.length).toNat 0+1))
def jl (t:Int) (ws:List Int):Int:=if (!decide (t < 0)&&bL t)&&right ws then (if BC ws then (if 1024 < ws.length then 5 else if az ws=0 then (if t=0 then 0 else 2) else 0) else 3) else 3
def fS (t:Int) (ws:List Int):List Int:=
 if jl t ws=0 then (if az ws=0 then List.replicate ws.length 0 else pM (P7 t (az ws) ws) (t-az (w6 t (az ws) ws)).toNat (List.replicate ws.length false) (w6 t (az ws) ws)) else []
theorem IX (rs:List Int):∀ (n:Nat) (gs:List Bool) (ps:List Int),(pM rs n gs ps).length=ps.length
 | 0,_,_=>rfl
 | n+1,gs,ps=>by simp only [pM];rw [IX rs n];simp
theorem rS (t:Int) (ws:List Int):(fS t ws).length<=ws.length:=by
 unfold fS;split
 ·split
  ·simp
  ·rw [IX];simp [w6]
 ·simp
theorem BN (rs:List Int) (gs:List Bool):∀ i,-1<=gT rs gs i/\gT rs gs i < i
 | 0=>by simp [gT]
 | i+1=>by
  have:=BN rs gs i;simp only [gT];split<;>omega
theorem JP (rs:List Int) (gs:List Bool):∀ i,(∃ j < i,gs.getD j true=false)->0<=gT rs gs i
 | 0,h=>by obtain ⟨j,hj,_⟩:=h;omega
 | i+1,h=>by
  simp only [gT];split
  ·omega
  ·rename_i hc;rcases Int.lt_or_le (gT rs gs i) 0 with hb | hb
   ·have hd:decide (gT rs gs i < 0)=true:=decide_eq_true hb;rw [hd,Bool.true_or,Bool.and_true] at hc;obtain ⟨j,hj,he⟩:=h;rcases Nat.lt_or_ge j i with h2 | h2
    ·have:=JP rs gs i ⟨j,h2,he⟩;omega
    ·obtain rfl:j=i:=by omega
     rw [he] at hc;exact absurd rfl hc
   ·exact hb
theorem Fg (rs:List Int) (gs:List Bool):∀ i,0<=gT rs gs i->gs.getD (gT rs gs i).toNat true=false
 | 0,h=>by simp [gT] at h
 | i+1,h=>by
  simp only [gT] at h |-;split
  ·rename_i hc;simp only [cr,Bool.not_eq_true'] at hc;rw [show ((i:Int)).toNat=i by omega];exact hc.1
  ·rename_i hc;rw [if_neg hc] at h;exact Fg rs gs i h
theorem Kv:∀ {gs:List Bool},gs.count true < gs.length->∃ j < gs.length,gs.getD j true=false
 | [],h=>by simp at h
 | b :: r,h=>by
  cases b
  ·exact ⟨0,by simp,rfl⟩
  ·simp only [List.count_cons_self,List.length_cons] at h;obtain ⟨j,hj,he⟩:=Kv (gs:=r) (by omega);exact ⟨j+1,by simp;omega,by simpa using he⟩
theorem count_set:∀ {gs:List Bool} {j:Nat},gs.getD j true=false->(gs.set j true).count true=gs.count true+1
 | [],j,h=>by simp at h
 | b :: r,0,h=>by
  have h:b=false:=h;subst h;simp
 | b :: r,j+1,h=>by
  have:=count_set (gs:=r) (j:=j) (by simpa using h);simp only [List.set_cons_succ,List.count_cons,this];omega
theorem mI:∀ {l:List Int},(∀ x∈l,0<=x)->0<=az l
 | [],_=>by simp [az]
 | x :: r,h=>by
  have h1:=h x (by simp);have h2:=mI (l:=r) fun y hy=>h y (by simp [hy])
  simp only [az];omega
theorem D4:∀ {l:List Int},(∀ x∈l,0<=x)->∀ x∈l,x<=az l
 | [],_,x,hx=>by cases hx
 | y :: r,h,x,hx=>by
  have h1:=h y (by simp);have h2:=mI (l:=r) fun z hz=>h z (by simp [hz])
  simp only [az];rcases List.mem_cons.1 hx with rfl | hx
  ·omega
  ·have:=D4 (l:=r) (fun z hz=>h z (by simp [hz])) x hx;omega
theorem Lo:∀ {l:List Int},(∀ x∈l,0<=x)->∀ i,az (l.take i)<=az l
 | [],_,i=>by simp
 | y :: r,h,0=>by simp only [List.take_zero];exact mI h
 | y :: r,h,i+1=>by
  have:=Lo (l:=r) (fun z hz=>h z (by simp [hz])) i;simp only [List.take_succ_cons,az];omega
theorem KZ {t W:Int} (hW:1<=W):∀ {l:List Int},(∀ x∈l,0<=t*x)->0<=az (w6 t W l)/\W*az (w6 t W l)+az (P7 t W l)=t*az l/\0<=az (P7 t W l)/\az (P7 t W l)<=(W-1)*l.length
 | [],_=>by simp [w6,P7,az]
 | x :: r,h=>by
  obtain ⟨h1,h2,h3,h4⟩:=KZ hW (l:=r) fun y hy=>h y (by simp [hy])
  have h0:=h x (by simp);have a1:=Int.mul_ediv_add_emod (t*x) W;have a2:=Int.emod_nonneg (t*x) (show W≠0 by omega);have a3:=Int.emod_lt_of_pos (t*x) (show 0 < W by omega);have a4:0<=t*x / W:=Int.ediv_nonneg h0 (by omega);have e1:w6 t W (x :: r)=(t*x / W) :: w6 t W r:=rfl;have e2:P7 t W (x :: r)=(t*x%W) :: P7 t W r:=rfl;rw [e1,e2];simp only [az,List.length_cons];refine ⟨by omega,?_,by omega,?_⟩
  ·rw [Int.mul_add,Int.mul_add];omega
  ·push_cast
   rw [Int.mul_add];omega
theorem y8 {t W:Int} {ws:List Int} (ht:0<=t) (hW:az ws=W) (hW1:1<=W) (hw:∀ x∈ws,0<=x):0<=t-az (w6 t W ws)/\t-az (w6 t W ws) < ws.length:=by
 obtain ⟨h1,h2,h3,h4⟩:=KZ (t:=t) hW1 (l:=ws) fun x hx=>Int.mul_nonneg ht (hw x hx)
 rw [hW,Int.mul_comm t W] at h2;have h5:W*(t-az (w6 t W ws))=az (P7 t W ws):=by rw [Int.mul_sub];omega
 have hpos:0 < ws.length:=by
  cases ws with
  | nil=>simp [az] at hW;omega
  | cons x r=>simp
 constructor
 ·rcases Int.lt_or_le (t-az (w6 t W ws)) 0 with h | h
  ·have:=Int.mul_neg_of_pos_of_neg (show 0 < W by omega) h;omega
  ·exact h
 ·rcases Int.lt_or_le (t-az (w6 t W ws)) ws.length with h | h
  ·exact h
  ·have h6:=Int.mul_le_mul_of_nonneg_left h (show 0<=W by omega);rw [Int.sub_mul] at h4;omega
theorem sK {t W x:Int} (ht:0<=t) (hW1:1<=W) (h0:0<=x) (hx:x<=W):0<=t*x / W/\t*x / W<=t:=by
 have h1:=Int.mul_nonneg ht h0;refine ⟨Int.ediv_nonneg h1 (by omega),?_⟩;have h2:t*x<=t*W:=Int.mul_le_mul_of_nonneg_left hx ht;have h3:=Int.ediv_le_ediv (show 0 < W by omega) h2;rw [Int.mul_ediv_cancel _ (show W≠0 by omega)] at h3;exact h3
theorem MG {t W:Int} {ws:List Int} (ht:0<=t) (hW:az ws=W) (hW1:1<=W) (hw:∀ x∈ws,0<=x) (i:Nat):0<=az (w6 t W (ws.take i))/\az (w6 t W (ws.take i))<=t:=by
 have hw':∀ x∈ws.take i,0<=x:=fun x hx=>hw x (List.mem_of_mem_take hx)
 obtain ⟨h1,h2,h3,h4⟩:=KZ (t:=t) hW1 (l:=ws.take i) fun x hx=>Int.mul_nonneg ht (hw' x hx)
 have h5:=Lo hw i;refine ⟨h1,?_⟩;rcases Int.lt_or_le t (az (w6 t W (ws.take i))) with h | h
 ·have h6:t*az (ws.take i)<=t*W:=Int.mul_le_mul_of_nonneg_left (by omega) ht;have h7:=Int.mul_lt_mul_of_pos_left h (show 0 < W by omega);rw [Int.mul_comm W t] at h7;omega
 ·exact h
def CA (f:Int->Int) (ws:List Int) (i:Nat):List Int:=(ws.take i).map f++List.replicate (ws.length-i) 0
theorem SA (f:Int->Int) (ws:List Int):CA f ws 0=List.replicate ws.length 0:=by simp [CA]
theorem NU (f:Int->Int) (ws:List Int):CA f ws ws.length=ws.map f:=by simp [CA]
theorem Nx (f:Int->Int) (ws:List Int) {i:Nat} (h:i<=ws.length):(CA f ws i).length=ws.length:=by simp [CA];omega
theorem Mt (f:Int->Int) {ws:List Int} {i:Nat} (h:i < ws.length):(CA f ws i).set i (f ws[i])=CA f ws (i+1):=by
 have hl:((ws.take i).map f).length=i:=by simp;omega
 have e:ws.length-i=(ws.length-(i+1))+1:=by omega
 simp only [CA];rw [List.set_append_right _ _ (by omega),hl,Nat.sub_self,e,List.replicate_succ,List.set_cons_zero,List.take_succ_eq_append_getElem h,List.map_append,List.append_assoc];rfl
def HS (gs:List Bool):List (List D):=gs.map fun b=>[.bool b]
theorem Bb (gs:List Bool):(HS gs).length=gs.length:=by simp [HS]
theorem PM (gs:List Bool) {i:Nat} (h:i < gs.length):(HS gs).getD i []=[.bool gs[i]]:=by simp [HS,h]
theorem ints_set (l:List Int) (i:Nat) (v:Int):(ints l).set i [.int .i64 v]=ints (l.set i v):=by simp [ints,List.map_set]
theorem WC (l:List Int) (i:Nat) (v:Int):(kD l).set i [.int .i64 (v / 18446744073709551616),.int .u64 (v%18446744073709551616)]=kD (l.set i v):=by simp [kD,wd,List.map_set]
theorem WV (l:List Bool) (i:Nat) (v:Bool):(HS l).set i [.bool v]=HS (l.set i v):=by simp [HS,List.map_set]
theorem GH (n:Nat):List.replicate n [D.int .i64 0]=ints (List.replicate n 0):=by simp [ints]
theorem P4 (n:Nat):List.replicate n [D.int .i64 0,D.int .u64 0]=kD (List.replicate n 0):=by simp [kD,wd]
theorem Wu (n:Nat):List.replicate n [D.bool false]=HS (List.replicate n false):=by simp [HS]
theorem KQ (t:Int) (ws:List Int) (hl:ws.length < 2 ^ 30):Abs.Spec Tryz.prog 274 [] [.int .i64 t,.sl 1 (ints ws)] [.own 1 (ints (fS t ws))] (.bI [.ref 0,.int .i64 (jl t ws)]):=by
 have c1:=dn t;have c2:=xq ws (by omega);refine bu 149 2 [.tmp 4,.tmp 5] mixed Tryz.func274 ?_
 by_cases q0:t < 0
 ·have d:decide (t < 0)=true:=decide_eq_true q0;have e:jl t ws=3:=by simp [jl,q0]
  simp only [go_sem,seval,d,fS,e]<;>simp [ints]
 have d0:decide (t < 0)=false:=decide_eq_false q0;simp only [go_sem,seval,d0];refine aa.pure c1 ?_;cases q1:bL t
 ·have e:jl t ws=3:=by simp [jl,q1]
  simp only [go_sem,seval,fS,e]<;>simp [ints]
 simp only [go_sem,seval];refine aa.pure c2 ?_;cases q2:right ws
 ·have e:jl t ws=3:=by simp [jl,q2]
  simp only [go_sem,seval,fS,e]<;>simp [ints]
 have e:jl t ws=if BC ws then (if 1024 < ws.length then 5 else if az ws=0 then (if t=0 then 0 else 2) else 0) else 3:=by simp only [jl,d0,q1,q2];rfl
 simp only [fS];rw [e];clear e c1 c2;have hin:=fun x hx=>cg.1 (List.all_eq_true.1 q2 x hx)
 have htin:=cg.1 q1;simp only [go_sem,seval,av];refine aC.walk (S:=Unit) ws.length [0,1] [] (fun i _=>[(7,.int .i64 i),(6,.ref 768)]) (fun i _=>[(768,.own 2 (kD (ws.take i)))]) (fun i _=>BC (ws.drop i)=BC ws) () rfl ?_ ?_ ?_
 ·simp only [go_sem,seval]<;>simp [kD]
 ·intro i _ hi hdi hwi hI;have hm:=ints_at ws hi;have hli:(i:Int) < (ws.length:Int):=by omega
  have hxr:=hin _ (List.getElem_mem hi);have hnext:kD (ws.take (i+1))=kD (ws.take i)++[wd ws[i]]:=by rw [List.take_succ_eq_append_getElem hi];simp only [kD,List.map_append,List.map_cons,List.map_nil]
  have hlen:(kD (ws.take i)).length=i:=by simp [kD];omega
  obtain ⟨x,hx⟩:=aH (ws[i]);rw [dN hi,<- hx] at hI;rw [<- hx] at hm hxr hnext;have hO:=sN x ⟨by omega,by omega⟩;have hc:BC (x :: ws.drop (i+1))=(!decide (x < 0)&&BC (ws.drop (i+1))):=rfl;rw [hc] at hI;simp only [wd] at hO hnext
  by_cases q:x < 0
  ·have d:decide (x < 0)=true:=decide_eq_true q;rw [d,Bool.not_true,Bool.false_and] at hI;rw [<- hI];simp only [go_sem,seval,av,hdi,hm,d];(with_reducible and_intros)<;>first|exact .dq|omega|skip
   all_goals simp [ints]
  ·have d:decide (x < 0)=false:=decide_eq_false q;rw [d,Bool.not_false,Bool.true_and] at hI;simp only [go_sem,seval,av,hdi,hm,d];(with_reducible and_intros)<;>first|exact .dq|omega|skip
   refine aa.pure hO ?_;simp only [go_sem,seval,hwi,hlen];(with_reducible and_intros)<;>first|exact .dq|omega|skip
   refine ah.step () hi hI ?_;simp only [go_sem,seval,hnext]
 intro _ hdx hI;rw [List.drop_length] at hI;have hI:BC ws=true:=hI.symm
 have hnn:∀ x∈ws,0<=x:=fun x hx=>by
  have:=List.all_eq_true.1 hI x hx;simp only [Bool.not_eq_true',decide_eq_false_iff_not] at this;omega
 rw [hI];clear hI
 by_cases q4:1024 < ws.length
 ·have d:decide (1024 < (ws.length:Int))=true:=decide_eq_true (by omega);simp only [go_sem,seval,av,hdx,if_pos q4,d];(with_reducible and_intros)<;>first|exact .dq|omega|skip
  all_goals simp [ints]
 have d4:decide (1024 < (ws.length:Int))=false:=decide_eq_false (by omega);have hsr:=ym q2;obtain ⟨hi1,hi2⟩:=QJ (l:=ws) (fun n hn=>⟨by have:=hin n hn;omega,by have:=hin n hn;omega⟩) (by omega);have hS:=kr ws (by omega) hi1;have hs0:=mI hnn;have hmem:=D4 hnn;have htk:=fun (h:1<=az ws) (i:Nat)=>MG (t:=t) (ws:=ws) (by omega) rfl h hnn i
 have hlr:=fun (h:1<=az ws)=>y8 (t:=t) (ws:=ws) (by omega) rfl h hnn
 rw [hi2,if_pos rfl] at hS;obtain ⟨W,hW⟩:=aH (az ws);rw [<- hW] at hS hsr hs0 hmem htk hlr |-;simp only [wd] at hS;simp only [go_sem,seval,av,hdx,if_neg q4,d4,List.take_length];(with_reducible and_intros)<;>first|exact .dq|omega|skip
 refine aa.gen [] [] true (by simp) ?_;simp only [go_sem,seval];refine aU.intro hS ?_;clear hS hdx hi1 hi2 d4
 by_cases q5:W=0
 ·rw [q5]
  by_cases q6:t=0
  ·rw [q6];simp only [go_sem,seval,av,if_true,GH];(with_reducible and_intros)<;>first|exact .dq|omega|skip
   all_goals (first | omega | simp [ints])
  ·have d:(t==0)=false:=by simpa using q6
   simp only [go_sem,seval,av,if_true,bne,d,if_neg q6];(with_reducible and_intros)<;>first|exact .dq|omega|skip
   all_goals simp [ints]
 have hW1:1<=W:=by omega
 have htk:=htk hW1;have hlr:=hlr hW1
 have dW:(W / 18446744073709551616==0&&W%18446744073709551616==0)=false:=by
  rw [Bool.and_eq_false_iff];simp only [beq_eq_false_iff_ne];omega
 have hmid:∀ {Q:Prop},((W / 18446744073709551616==0)=false->Q)->((W / 18446744073709551616==0)=true->(W%18446744073709551616==0)=false->Q)->Q:=fun f g=>by
  cases h:W / 18446744073709551616==0
  ·exact f h
  ·exact g h (by rw [h,Bool.true_and] at dW;exact dW)
 simp only [if_neg q5,if_true];obtain ⟨R,hR⟩:=aH (P7 t W ws);obtain ⟨T,hT⟩:=aH (pM R (t-az (w6 t W ws)).toNat (List.replicate ws.length false) (w6 t W ws));rw [<- hR,<- hT];have hRl:R.length=ws.length:=by rw [hR];simp [P7]
 have hbst:=BN R;refine hmid (fun h=>?_) (fun h h'=>?_)
 all_goals
  simp only [go_sem,seval,h]
  try simp only [go_sem,seval,h']
  (with_reducible and_intros)<;>first|exact .dq|omega|skip
  simp only [go_sem,seval,av,GH,P4];(with_reducible and_intros)<;>first|exact .dq|omega|skip
  try (rw [av];omega)
 all_goals try (rw [av];omega)
 all_goals
  refine aC.walk (S:=Unit) ws.length [0,1,8] [144] (fun i _=>[(13,.int .i64 i),(12,.int .i64 (t-az (w6 t W (ws.take i)))),(10,.ref 176),(11,.ref 192)]) (fun i _=>[(176,.own 1 (ints (CA (fun w=>t*w / W) ws i))),(192,.own 2 (kD (CA (fun w=>t*w%W) ws i)))]) (fun _ _=>True) () trivial ?_ ?_ ?_
  ·simp only [go_sem,seval,SA]<;>simp [w6,az,av,GH,P4]
  ·intro i _ hi hdi hwi _;have hm:=ints_at ws hi;have hli:(i:Int) < (ws.length:Int):=by omega
   have hx1:=hin _ (List.getElem_mem hi);have hx2:=hnn _ (List.getElem_mem hi);have hx3:=hmem _ (List.getElem_mem hi);have hp1:=Nx (fun w=>t*w / W) ws (i:=i) (by omega);have hp2:=Nx (fun w=>t*w%W) ws (i:=i) (by omega);have hs1:=Mt (fun w=>t*w / W) hi;have hs2:=Mt (fun w=>t*w%W) hi;have hpi:=htk i;have hpn:=htk (i+1)
   have hpe:az (w6 t W (ws.take (i+1)))=az (w6 t W (ws.take i))+t*ws[i] / W:=by
    rw [List.take_succ_eq_append_getElem hi];simp only [w6,List.map_append,List.map_cons,List.map_nil,u7]
   obtain ⟨x,hx⟩:=aH (ws[i]);rw [<- hx] at hm hx1 hx2 hx3 hs1 hs2 hpe;have hmr:=fQ (a:=t) (b:=x) (A:=4611686018427387904) (B:=4611686018427387904) (by omega) (by omega);have hm0:=Int.mul_nonneg (show 0<=t by omega) hx2;have hpr:=sK (t:=t) (W:=W) (x:=x) (by omega) hW1 hx2 hx3
   have hlt:t*x < W*9223372036854775808:=by
    have h1:t*x<=t*W:=Int.mul_le_mul_of_nonneg_left hx3 (by omega);have h2:t*W<=4611686018427387904*W:=Int.mul_le_mul_of_nonneg_right htin.2 (by omega);omega
   have cT:=lX t x ⟨by omega,by omega⟩ ⟨by omega,by omega⟩;have cD:=FN (t*x) W hm0 (by omega) hW1 (by omega) hlt;obtain ⟨P,hP⟩:=aH (t*x / W);obtain ⟨Z,hZ⟩:=aH (t*x%W);obtain ⟨Y,hY⟩:=aH (t*x);obtain ⟨S,hS⟩:=aH (az (w6 t W (ws.take i)));obtain ⟨A,hA⟩:=aH (CA (fun w=>t*w / W) ws i);obtain ⟨B,hB⟩:=aH (CA (fun w=>t*w%W) ws i);rw [<- hP,<- hZ,<- hY] at cD;rw [<- hY] at cT;rw [<- hP,<- hA] at hs1;rw [<- hZ,<- hB] at hs2;rw [<- hA] at hp1;rw [<- hB] at hp2;rw [<- hP,<- hS] at hpe;rw [<- hS] at hpi;rw [<- hP] at hpr;rw [hpe] at hpn;rw [<- hA,<- hB,<- hS];have hwl:IntKind.wrap .i64 (t-S-P)=t-(S+P):=by rw [bn (by omega) (by omega)];omega
   have hsa:∀ V,((ints A).set i [.int .i64 V]).getD i []=[.int .i64 V]:=fun V=>by simp [ints,hp1,hi]
   have hmA:=ints_at A (i:=i) (by omega);have hmB:=tM B (i:=i) (by omega);simp only [wd] at cT cD;clear hA hB hP hZ hY hS hmid htk hlr hT hR;simp only [go_sem,seval,av,hdi,hm];(with_reducible and_intros)<;>first|exact .dq|omega|skip
   refine aa.pure cT ?_;simp only [go_sem,seval];(with_reducible and_intros)<;>first|exact .dq|omega|skip
   refine aa.pure cD ?_;simp only [go_sem,seval,av,zx,hp1,hp2,hmA,hmB];(with_reducible and_intros)<;>first|exact .dq|omega|skip
   all_goals try simp only [go_sem,seval,av,zx,hp1,hp2,hmA,hmB,hsa,hwl,hwi,List.length_set]
   all_goals (with_reducible and_intros)<;>first|exact .dq|omega|skip
   all_goals first
    | (simp only [List.length_set,av,zx];omega)
    | (refine ah.step () hi trivial ?_
       simp only [go_sem,seval,ints_set,WC,hs1,hs2,hpe]<;>simp)
  intro _ hdx _;have hP1:ws.map (fun w=>t*w / W)=w6 t W ws:=rfl;have hR1:ws.map (fun w=>t*w%W)=R:=hR.symm;have hpl:(w6 t W ws).length=ws.length:=by simp [w6]
  have hpv:∀ p∈w6 t W ws,0<=p/\p<=4611686018427387904:=fun p hp=>by
   obtain ⟨x,hx,rfl⟩:=List.mem_map.1 hp;have:=sK (t:=t) (W:=W) (x:=x) (by omega) hW1 (hnn x hx) (hmem x hx);omega
  obtain ⟨n0,hn0⟩:∃ n0:Nat,n0=(t-az (w6 t W ws)).toNat:=⟨_,rfl⟩
  have hn1:t-az (w6 t W ws)=(n0:Int):=by omega
  rw [<- hn0] at hT;have hnl:n0 < ws.length:=by omega
  obtain ⟨p0,hp0⟩:=aH (w6 t W ws);rw [<- hp0] at hT hpl hpv;rw [List.take_length,NU,NU,hP1,hR1,hn1,<- hp0]
  have hloop:∀ gs:List Bool,gs.count true < gs.length->gs.length=ws.length->0<=gT R gs ws.length/\gT R gs ws.length < ws.length/\gs.getD (gT R gs ws.length).toNat true=false:=fun gs h1 h2=>by
   obtain ⟨j,hj,he⟩:=Kv h1;have:=JP R gs ws.length ⟨j,by omega,he⟩;exact ⟨this,(hbst gs _).2,Fg R gs _ this⟩
  clear hmid htk hlr hR hP1 hR1 hp0 hn0 hn1 hin hnn hmem;simp only [go_sem,seval,av,hdx,Wu];(with_reducible and_intros)<;>first|exact .dq|omega|skip
  all_goals try (rw [av];omega)
  refine aC.over (T:=Nat × List Bool × List Int) [1,11] [192] (fun s=>[(12,.int .i64 (s.1:Nat)),(10,.ref 176),(14,.ref 240)]) (fun s=>[(176,.own 1 (ints s.2.2)),(240,.own 1 (HS s.2.1))])
   (fun s=>pM R s.1 s.2.1 s.2.2=T/\s.2.1.length=ws.length/\s.2.2.length=ws.length/\s.2.1.count true+s.1 < ws.length/\∀ p∈s.2.2,0<=p/\p+(s.1:Nat)<=4611686018427387904+(n0:Nat)) (fun s=>s.1) (n0,List.replicate ws.length false,p0) ?_ ?_ ?_
  ·refine ⟨hT.symm,by simp,hpl,by simp [List.count_replicate];omega,?_⟩;intro p hp;have:=hpv p hp;dsimp only;omega
  ·simp only [go_sem,seval]<;>simp
  rintro ⟨n,gs,ps⟩ ⟨h1,h2,h3,h4,h5⟩
  dsimp only at h1 h2 h3 h4 h5 |-;rcases Nat.eq_zero_or_pos n with rfl | hpos
  ·have h1:ps=T:=h1;rw [h1];simp only [go_sem,seval];refine fu.id ?_;simp only [go_sem,seval]
  obtain ⟨m,rfl⟩:∃ m,n=m+1:=⟨n-1,by omega⟩
  obtain ⟨hb1,hb2,hb3⟩:=hloop gs (by omega) h2;have hd0:decide (0 < ((m+1:Nat):Int))=true:=decide_eq_true (by omega);have hw1:IntKind.wrap .i64 (((m+1:Nat):Int)-1)=(m:Int):=by rw [bn (by omega) (by omega)];omega
  simp only [pM,hRl] at h1;simp only [go_sem,seval,hd0,av];refine aC.walk (S:=Unit) ws.length [1,10,11,12,14] [176,192,240] (fun i _=>[(16,.int .i64 i),(15,.int .i64 (gT R gs i))]) (fun _ _=>[]) (fun _ _=>True) () trivial ?_ ?_ ?_
  ·simp only [go_sem,seval]<;>simp [gT]
  ·intro i _ hi hdi hwi _;have hig:i < gs.length:=by omega
   have hiR:i < R.length:=by omega
   have hmg:=PM gs hig;have hmi:=tM R hiR;have hgd:gs.getD i true=gs[i]:=by simp [hig]
   have hRd:R.getD i 0=R[i]:=by simp [hiR]
   have hb:=hbst gs i
   have hst:gT R gs (i+1)=if !gs[i]&&(decide (gT R gs i < 0)||decide (R.getD (gT R gs i).toNat 0 < R[i])) then (i:Int) else gT R gs i:=by
    simp only [gT,hgd,hRd]
   have hli:(i:Int) < (gs.length:Int):=by omega
   have hlR:(i:Int) < (R.length:Int):=by omega
   cases hg:gs[i]
   case true =>
    rw [hg] at hst hmg;simp only [Bool.not_true,Bool.false_and,fZ,if_false] at hst;simp only [go_sem,seval,av,hdi,hmg,Bb,hwi];(with_reducible and_intros)<;>first|exact .dq|omega|skip
    refine ah.step () hi trivial ?_;simp only [go_sem,seval,hst]
   rw [hg] at hst hmg;rcases Int.lt_or_le (gT R gs i) 0 with hb0 | hb0
   ·have d:decide (gT R gs i < 0)=true:=decide_eq_true hb0;simp only [d,Bool.not_false,Bool.true_and,Bool.true_or,if_true] at hst;simp only [go_sem,seval,av,hdi,hmg,Bb,d,hwi];(with_reducible and_intros)<;>first|exact .dq|omega|skip
    refine ah.step () hi trivial ?_;simp only [go_sem,seval,hst]
   have d:decide (gT R gs i < 0)=false:=decide_eq_false (by omega);obtain ⟨b,hbb⟩:∃ b:Nat,gT R gs i=b:=⟨(gT R gs i).toNat,by omega⟩
   have hbR:b < R.length:=by omega
   have hmb:=tM R hbR;have hbd:R.getD b 0=R[b]:=by simp [hbR]
   have hlb:(b:Int) < (R.length:Int):=by omega
   have cL:=tL R[b] R[i];rw [hbb] at d hst;simp only [d,Bool.not_false,Bool.true_and,Bool.false_or,Int.toNat_natCast,hbd] at hst;simp only [wd] at cL;simp only [hbb];simp only [go_sem,seval,av,hdi,hmg,Bb,d,hmb,hmi,zx];(with_reducible and_intros)<;>first|exact .dq|omega|skip
   refine aa.pure cL ?_
   by_cases hl:R[b] < R[i]
   ·have d2:decide (R[b] < R[i])=true:=decide_eq_true hl;rw [d2,if_pos rfl] at hst;simp only [go_sem,seval,d2,hwi];(with_reducible and_intros)<;>first|exact .dq|omega|skip
    refine ah.step () hi trivial ?_;simp only [go_sem,seval,hst]
   ·have d2:decide (R[b] < R[i])=false:=decide_eq_false hl;rw [d2,if_neg (by simp)] at hst;simp only [go_sem,seval,d2,hwi];(with_reducible and_intros)<;>first|exact .dq|omega|skip
    refine ah.step () hi trivial ?_;simp only [go_sem,seval,hst]
  ·intro _ hdx _;obtain ⟨b,hbb⟩:∃ b:Nat,gT R gs ws.length=b:=⟨(gT R gs ws.length).toNat,by omega⟩
   rw [hbb] at h1 hb1 hb2 hb3 |-;rw [Int.toNat_natCast] at h1 hb3;have hbg:b < gs.length:=by omega
   have hbp:b < ps.length:=by omega
   have hmg:=PM gs hbg;have hmp:=ints_at ps hbp;have hpd:ps.getD b 0=ps[b]:=by simp [hbp]
   have hlg:(b:Int) < (gs.length:Int):=by omega
   have hlp:(b:Int) < (ps.length:Int):=by omega
   have hpr:=h5 ps[b] (List.getElem_mem hbp);have hwp:IntKind.wrap .i64 (ps[b]+1)=ps[b]+1:=bn (by omega) (by omega);rw [hpd] at h1;have hcs:=count_set hb3
   have h5':∀ p∈ps.set b (ps[b]+1),0<=p/\p+(m:Nat)<=4611686018427387904+(n0:Nat):=fun p hp=>by
    rcases List.mem_or_eq_of_mem_set hp with h | rfl
    ·have:=h5 p h;omega
    ·omega
   simp only [go_sem,seval,av,hdx,hmg,hmp,Bb,hwp,hw1];(with_reducible and_intros)<;>first|exact .dq|omega|skip
   refine ⟨(m,gs.set b true,ps.set b (ps[b]+1)),⟨h1,by simp [h2],by simp [h3],by dsimp only;omega,h5'⟩,?_,by simp⟩;simp only [go_sem,seval,ints_set,WV]<;>simp
theorem xN (t:Int) (ws:List Int) (hl:ws.length < 2 ^ 30):Abs.Spec Tryz.prog 274 [] [.int .i64 t,.sl 1 (ints ws)] [] (.bI [.sl 1 (ints (fS t ws)),.int .i64 (jl t ws)]):=by
 refine Spec.frozen (KQ t ws hl) [0] rfl ?_;intro r;rcases r with _ | r<;>rfl
theorem IM {rs:List Int} {B:Int}:∀ (n:Nat) (gs:List Bool) (ps:List Int),0<=B->(∀ p∈ps,0<=p/\p<=B)->∀ p∈pM rs n gs ps,0<=p/\p<=B+n
 | 0,_,_,_,h=>fun p hp=>by have:=h p hp;simp;omega
 | n+1,gs,ps,hB,h=>by
  intro p hp;simp only [pM] at hp
  have:=IM (B:=B+1) n _ _ (by omega) (fun q hq=>by
   rcases List.mem_or_eq_of_mem_set hq with h1 | rfl
   ·have:=h q h1;omega
   ·have:0<=ps.getD (gT rs gs rs.length).toNat 0/\ps.getD (gT rs gs rs.length).toNat 0<=B:=by
     rw [List.getD_eq_getElem?_getD];cases he:ps[(gT rs gs rs.length).toNat]? with
     | none=>simp;exact hB
     | some x=>exact h x (List.mem_of_getElem? he)
    omega) p hp
  push_cast;omega
theorem OL (t:Int) (ws:List Int):∀ p∈fS t ws,0<=p/\p<=4611686018427388928:=by
 intro p hp;unfold fS at hp;split at hp
 ·rename_i hE;unfold jl at hE;split at hE
  ·rename_i h1;simp only [cr,Bool.not_eq_true',decide_eq_false_iff_not] at h1;split at hE
   ·rename_i h2;split at hE
    ·cases hE
    ·rename_i h3;split at hp
     ·have:p=0:=by simpa using (List.mem_replicate.1 hp).2
      omega
     ·rename_i h4
      have hnn:∀ x∈ws,0<=x:=fun x hx=>by
       have:=List.all_eq_true.1 h2 x hx;simp only [Bool.not_eq_true',decide_eq_false_iff_not] at this;omega
      have hs0:=mI hnn;have hlr:=y8 (t:=t) (ws:=ws) (by omega) rfl (by omega) hnn;have htr:=cg.1 h1.1.2
      have:=IM (B:=4611686018427387904) _ _ _ (by decide) (fun q hq=>by
       obtain ⟨x,hx,rfl⟩:=List.mem_map.1 hq;have:=sK (t:=t) (W:=az ws) (x:=x) (by omega) (by omega) (hnn x hx) (D4 hnn x hx)
       omega) p hp
      omega
   ·cases hE
  ·cases hE
 ·cases hp
def BZ (c:Int) (ws:List Int):Bool:=mO (fun x=>within x 1 16) (fun a b=>decide (a < b)) ws&&within c 0 2
theorem xA (c:Int) (ws:List Int) (hl:ws.length < 2 ^ 30):Abs.Spec Tryz.prog 267 [] [.int .i64 c,.sl 1 (ints ws)] [] (.bool (BZ c ws)):=by
 have c2:=fK c;simp only [BZ];refine bu 36 2 [.tmp 4] mixed Tryz.func267 ?_;simp only [go_sem,seval,av];refine aC.walk (S:=Unit) ws.length [0,1] [] (fun i _=>[(5,.int .i64 i)]) (fun _ _=>[]) (fun i _=>∀ j < i,lz (fun x=>within x 1 16) (fun a b=>decide (a < b)) ws j=true) () (by simp) ?_ ?_ ?_
 ·simp only [go_sem,seval]<;>simp
 ·intro i _ hi hdi hwi hI;have hm:=ints_at ws hi;have hli:(i:Int) < (ws.length:Int):=by omega
  have h1:=fO ws[i];have e0:=nN (ok:=fun x=>within x 1 16) (lt:=fun a b:Int=>decide (a < b)) (xs:=ws) (i:=i) hI;have e1:lz (fun x=>within x 1 16) (fun a b=>decide (a < b)) ws i=false->mO (fun x=>within x 1 16) (fun a b=>decide (a < b)) ws=false:=fun h=>sj hi h
  rcases Nat.eq_zero_or_pos i with rfl | hpos
  ·have hk:=gJ (ok:=fun x=>within x 1 16) (lt:=fun a b:Int=>decide (a < b)) hi;have hd0:decide ((0:Int) < (ws.length:Int))=true:=decide_eq_true (by omega);simp only [go_sem,seval,av,hd0,hm];(with_reducible and_intros)<;>first|exact .dq|omega|skip
   refine aa.pure h1 ?_;cases q:within ws[0] 1 16
   ·have:=e1 (by rw [hk,q]);simp only [go_sem,seval,q,this,Bool.false_and]
    all_goals (with_reducible and_intros)<;>first|exact .dq|omega|skip
   simp only [go_sem,seval,q,hwi]
   all_goals (with_reducible and_intros)<;>first|exact .dq|omega|skip
   all_goals refine ah.step () hi (e0 (by rw [hk,q])) ?_
   all_goals simp only [go_sem,seval]
   all_goals rfl
  ·obtain ⟨j,rfl⟩:∃ j,i=j+1:=⟨i-1,by omega⟩
   have hj:j < ws.length:=by omega
   have hw1:IntKind.wrap .i64 (((j+1:Nat):Int)-1)=(j:Int):=by rw [bn (by omega) (by omega)];omega
   have hk:=gm (ok:=fun x=>within x 1 16) (lt:=fun a b:Int=>decide (a < b)) hi;have hmj:=ints_at ws hj;have hd:decide (0 < ((j+1:Nat):Int))=true:=decide_eq_true (by omega);simp only [go_sem,seval,av,hdi,hm];(with_reducible and_intros)<;>first|exact .dq|omega|skip
   refine aa.pure h1 ?_;cases q:within ws[j+1] 1 16
   ·have:=e1 (by rw [hk,q];rfl);simp only [go_sem,seval,q,this,Bool.false_and]
    all_goals (with_reducible and_intros)<;>first|exact .dq|omega|skip
   by_cases q2:ws[j] < ws[j+1]
   ·have d:decide (ws[j+1]<=ws[j])=false:=decide_eq_false (by omega);simp only [go_sem,seval,q,hd,hw1,hmj,hm,av,d,hwi];(with_reducible and_intros)<;>first|exact .dq|omega|skip
    refine ah.step () hi (e0 (by rw [hk,q,decide_eq_true q2];rfl)) ?_;simp only [go_sem,seval]
   ·have d:decide (ws[j+1]<=ws[j])=true:=decide_eq_true (by omega);have:=e1 (by rw [hk,q,decide_eq_false q2];rfl);simp only [go_sem,seval,q,hd,hw1,hmj,hm,av,d,this,Bool.false_and];(with_reducible and_intros)<;>first|exact .dq|omega|skip
 ·intro _ hdx hI;have:=mM (fun j (hj:j < ws.length)=>hI j hj);simp only [go_sem,seval,av,hdx,this];(with_reducible and_intros)<;>first|exact .dq|omega|skip
  refine aa.pure c2 ?_;simp only [go_sem,seval,Bool.true_and]
def iC (l:bz) (c:Int) (ws:List Int):List Int:=ws.map fun w=>fj ⟨3,w,c⟩ l.bs
theorem KR (l:bz) (c:Int) (ws:List Int) (hb:l.bs.length < 2 ^ 30) (hl:ws.length < 2 ^ 30):Abs.Spec Tryz.prog 268 [] [.agg l.cells,.int .i64 c,.sl 1 (ints ws)] [.own 1 (ints (iC l c ws))] (.ref 0):=by
 have cO:=fun a=>gV l a hb
 simp only [bz.cells,aD.cells] at cO |-;refine bu 27 3 [.tmp 6] mixed Tryz.func268 ?_;simp only [go_sem,seval,av];refine aC.walk (S:=Unit) ws.length [1,2,3] [64] (fun i _=>[(8,.int .i64 i),(7,.ref 416)]) (fun i _=>[(416,.own 1 (ints (iC l c (ws.take i))))]) (fun _ _=>True) () trivial ?_ ?_ ?_
 ·simp only [go_sem,seval]<;>simp [iC,ints]
 ·intro i _ hi hdi hwi _;have hm:=ints_at ws hi;have hli:(i:Int) < (ws.length:Int):=by omega
  have hs:ints (iC l c (ws.take (i+1)))=ints (iC l c (ws.take i))++[[.int .i64 (fj ⟨3,ws[i],c⟩ l.bs)]]:=by
   rw [List.take_succ_eq_append_getElem hi];simp only [iC,ints,List.map_append,List.map_cons,List.map_nil]
  have hlen:(iC l c (ws.take i)).length=i:=by simp [iC];omega
  have cOi:=cO ⟨3,ws[i],c⟩;clear cO;simp only [go_sem,seval,av,hdi,hm];(with_reducible and_intros)<;>first|exact .dq|omega|skip
  refine aa.pure cOi ?_;simp only [go_sem,seval,av,hlen,hwi];(with_reducible and_intros)<;>first|exact .dq|omega|skip
  refine ah.step () hi trivial ?_;simp only [go_sem,seval,hs]
 ·intro _ hdx _;simp only [go_sem,seval,av,hdx,List.take_length]
theorem xj (l:bz) (c:Int) (ws:List Int) (hb:l.bs.length < 2 ^ 30) (hl:ws.length < 2 ^ 30):Abs.Spec Tryz.prog 268 [] [.agg l.cells,.int .i64 c,.sl 1 (ints ws)] [] (.sl 1 (ints (iC l c ws))):=by
 refine Spec.frozen (KR l c ws hb hl) [0] rfl ?_;intro r;rcases r with _ | r<;>rfl
def iq (r:aq) (ws:List Int):List Int:=ws.map fun w=>(ew r w).need
theorem Hp (r:aq) (ws:List Int) (h:r.jt) (hl:ws.length < 2 ^ 30):Abs.Spec Tryz.prog 269 [] [.agg r.cells,.sl 1 (ints ws)] [.own 1 (ints (iq r ws))] (.ref 0):=by
 have cM:=fun n=>ct r n h.small
 simp only [aq.cells] at cM |-;refine bu 30 2 [.tmp 4] mixed Tryz.func269 ?_;simp only [go_sem,seval,av];refine aC.walk (S:=Unit) ws.length [1,2] [48] (fun i _=>[(6,.int .i64 i),(5,.ref 464)]) (fun i _=>[(464,.own 1 (ints (iq r (ws.take i))))]) (fun _ _=>True) () trivial ?_ ?_ ?_
 ·simp only [go_sem,seval]<;>simp [iq,ints]
 ·intro i _ hi hdi hwi _;have hm:=ints_at ws hi;have hli:(i:Int) < (ws.length:Int):=by omega
  have hs:ints (iq r (ws.take (i+1)))=ints (iq r (ws.take i))++[[.int .i64 (ew r ws[i]).need]]:=by
   rw [List.take_succ_eq_append_getElem hi];simp only [iq,ints,List.map_append,List.map_cons,List.map_nil]
  have hlen:(iq r (ws.take i)).length=i:=by simp [iq];omega
  have cMi:=cM ws[i];obtain ⟨g,hg⟩:=aH (ew r ws[i]);rw [<- hg] at cMi hs;simp only [ak.cells] at cMi;clear cM;simp only [go_sem,seval,av,hdi,hm];(with_reducible and_intros)<;>first|exact .dq|omega|skip
  refine aa.pure cMi ?_;simp only [go_sem,seval,av,hlen,hwi];(with_reducible and_intros)<;>first|exact .dq|omega|skip
  refine ah.step () hi trivial ?_;simp only [go_sem,seval,hs]
 ·intro _ hdx _;simp only [go_sem,seval,av,hdx,List.take_length]
theorem tO (r:aq) (ws:List Int) (h:r.jt) (hl:ws.length < 2 ^ 30):Abs.Spec Tryz.prog 269 [] [.agg r.cells,.sl 1 (ints ws)] [] (.sl 1 (ints (iq r ws))):=by
 refine Spec.frozen (Hp r ws h hl) [0] rfl ?_;intro r;rcases r with _ | r<;>rfl
theorem BE {A:Type} {no:A->Int} {n:Int} {z:A} {R:A->Prop} (hz:R z):∀ {xs:List A},(∀ x∈xs,R x)->R (fX no n z xs)
 | [],_=>hz
 | x :: r,h=>by
  simp only [fX];split
  ·exact h x (by simp)
  ·exact BE hz fun y hy=>h y (by simp [hy])
theorem Jg {r:aq} (h:∀ m∈r.ms,m.cU) (n:Int):(ew r n).cU:=BE (R:=ak.cU) ⟨⟨by decide,by decide⟩,⟨by decide,by decide⟩,⟨by decide,by decide⟩⟩ h
def iz (l:bz) (c:Int) (ws:List Int):Int:=if l.okB then (if BZ c ws then (if bL (az (iC l c ws)) then 0 else 1) else 3) else 14
def pS (l:bz) (c:Int) (ws:List Int):Int:=if iz l c ws=0 then az (iC l c ws) else 0
theorem uo (l:bz) (c:Int) (ws:List Int) (hb:l.bs.length < 2 ^ 30) (hr:∀ b∈l.bs,b.cU) (hl:ws.length < 2 ^ 29):Abs.Spec Tryz.prog 249 [] [.agg l.cells,.int .i64 c,.sl 1 (ints ws)] [] (.bI [.int .i64 (pS l c ws),.int .i64 (iz l c ws)]):=by
 have c1:=iL l hb hr;have c2:=xA c ws (by omega);have c3:=xj l c ws hb (by omega);have c4:=cE (iC l c ws) (fun n hn=>by obtain ⟨w,_,rfl⟩:=List.mem_map.1 hn;exact pJ hr) (by simp [iC];omega);simp only [bz.cells] at c1 c3 |-;refine bu 28 3 [.tmp 6,.tmp 7] mixed Tryz.func249 ?_;simp only [go_sem,seval];(with_reducible and_intros)<;>first|exact .dq|omega|skip
 refine aa.pure c1 ?_;cases b1:l.okB
 ·have e:iz l c ws=14:=by simp [iz,b1]
  simp only [go_sem,seval,pS,e]<;>simp
 simp only [go_sem,seval];(with_reducible and_intros)<;>first|exact .dq|omega|skip
 refine aa.pure c2 ?_;cases b2:BZ c ws
 ·have e:iz l c ws=3:=by simp [iz,b1,b2]
  simp only [go_sem,seval,pS,e]<;>simp
 have e:iz l c ws=if bL (az (iC l c ws)) then 0 else 1:=by simp [iz,b1,b2]
 simp only [pS];rw [e];simp only [go_sem,seval];(with_reducible and_intros)<;>first|exact .dq|omega|skip
 refine aa.pure c3 ?_;simp only [go_sem,seval];(with_reducible and_intros)<;>first|exact .dq|omega|skip
 refine aa.pure c4 ?_;cases q:bL (az (iC l c ws))<;>simp only [go_sem,seval,q,addN]<;>simp
def j0 (r:aq) (ws:List Int):Int:=if r.okB then (if BZ 0 ws then (if bL (az (iq r ws)) then 0 else 1) else 3) else 14
def uJ (r:aq) (ws:List Int):Int:=if j0 r ws=0 then az (iq r ws) else 0
theorem xU (r:aq) (ws:List Int) (h:r.jt) (hr:∀ m∈r.ms,m.cU) (hl:ws.length < 2 ^ 29):Abs.Spec Tryz.prog 251 [] [.agg r.cells,.sl 1 (ints ws)] [] (.bI [.int .i64 (uJ r ws),.int .i64 (j0 r ws)]):=by
 have c1:=dL r h.small;have c2:=xA 0 ws (by omega);have c3:=tO r ws h (by omega);have c4:=cE (iq r ws) (fun n hn=>by obtain ⟨w,_,rfl⟩:=List.mem_map.1 hn;exact (Jg hr w).2.2) (by simp [iq];omega);simp only [aq.cells] at c1 c3 |-;refine bu 24 2 [.tmp 4,.tmp 5] mixed Tryz.func251 ?_;simp only [go_sem,seval];(with_reducible and_intros)<;>first|exact .dq|omega|skip
 refine aa.pure c1 ?_;cases b1:r.okB
 ·have e:j0 r ws=14:=by simp [j0,b1]
  simp only [go_sem,seval,uJ,e]<;>simp
 simp only [go_sem,seval];(with_reducible and_intros)<;>first|exact .dq|omega|skip
 refine aa.pure c2 ?_;cases b2:BZ 0 ws
 ·have e:j0 r ws=3:=by simp [j0,b1,b2]
  simp only [go_sem,seval,uJ,e]<;>simp
 have e:j0 r ws=if bL (az (iq r ws)) then 0 else 1:=by simp [j0,b1,b2]
 simp only [uJ];rw [e];simp only [go_sem,seval];(with_reducible and_intros)<;>first|exact .dq|omega|skip
 refine aa.pure c3 ?_;simp only [go_sem,seval];(with_reducible and_intros)<;>first|exact .dq|omega|skip
 refine aa.pure c4 ?_;cases q:bL (az (iq r ws))<;>simp only [go_sem,seval,q,addN]<;>simp
def vf (k c:Int) (ws ps:List Int) (i:Nat):List aY:=[⟨k,ws.getD i 0,c,-(ps.getD i 0)⟩]
def Gh (k c n:Int) (ws ps:List Int):List aY:=⟨6,0,c,n⟩ :: pq (vf k c ws ps) ps.length
def uB (k c n all:Int) (ws gs:List Int):Int:=if within n 0 4611686018427387904 then (if all < n then 13 else nL (Gh k c n ws (fS n gs))) else 3
def uv (k c n all:Int) (ws gs:List Int):List aY:=if uB k c n all ws gs=0 then ji (Gh k c n ws (fS n gs)) else []
theorem xS (k c n all:Int) (ws gs:List Int) (he:gs.length=ws.length) (hl:ws.length < 2 ^ 27):Abs.Spec Tryz.prog 271 [] [.int .i64 k,.int .i64 c,.int .i64 n,.int .i64 all,.sl 1 (ints ws),.sl 1 (ints gs)] [] (.bI [.sl 4 ((uv k c n all ws gs).map aY.cells),.int .i64 (uB k c n all ws gs)]):=by
 have c1:=fL n 0 4611686018427387904;have c2:=xN n gs (by omega);have hpl:=rS n gs;have hpr:=OL n gs
 have e0:within n 0 4611686018427387904=true -> ¬ all < n->uv k c n all ws gs=ji (Gh k c n ws (fS n gs)):=fun h1 h2=>by
  simp only [uv,uB,h1,if_neg h2,if_true];split
  ·rfl
  ·rename_i h;simp [ji,h]
 refine bu 61 6 [.tmp 12,.tmp 13] mixed Tryz.func271 ?_;simp only [go_sem,seval];(with_reducible and_intros)<;>first|exact .dq|omega|skip
 refine aa.pure c1 ?_;cases b1:within n 0 4611686018427387904
 ·have e:uB k c n all ws gs=3:=by simp [uB,b1]
  simp only [go_sem,seval,uv,e]<;>simp
 by_cases b2:all < n
 ·have d:decide (all < n)=true:=decide_eq_true b2;have e:uB k c n all ws gs=13:=by simp [uB,b1,b2]
  simp only [go_sem,seval,d,uv,e]<;>simp
 have d2:decide (all < n)=false:=decide_eq_false b2;have e:uB k c n all ws gs=nL (Gh k c n ws (fS n gs)):=by simp [uB,b1,b2]
 rw [e,e0 b1 b2];clear e e0 c1;obtain ⟨ps,hps⟩:=aH (fS n gs);rw [<- hps] at c2 hpl hpr |-;have hgl:=lF (f:=vf k c ws ps) (m:=1) (fun i=>by simp [vf]) ps.length;have cJ:=mP (Gh k c n ws ps) (by simp only [Gh,List.length_cons];omega);simp only [go_sem,seval,d2];(with_reducible and_intros)<;>first|exact .dq|omega|skip
 refine aa.pure c2 ?_;simp only [go_sem,seval,av];(with_reducible and_intros)<;>first|exact .dq|omega|skip
 refine aC.walk (S:=Unit) ps.length [0,1,4,14] [] (fun i _=>[(17,.int .i64 i),(16,.ref 912)]) (fun i _=>[(912,.own 4 ((⟨6,0,c,n⟩ :: pq (vf k c ws ps) i:List aY).map aY.cells))]) (fun _ _=>True) () trivial ?_ ?_ ?_
 ·simp only [go_sem,seval,kW]<;>simp
 ·intro i _ hi hdi hwi _;have hm:=ints_at ps hi;have hiw:i < ws.length:=by omega
  have hmw:=ints_at ws hiw;have hp:=hpr ps[i] (List.getElem_mem hi);have hw:IntKind.wrap .i64 (0-ps[i]) = -ps[i]:=by rw [bn (by omega) (by omega)];omega
  have hs:(⟨6,0,c,n⟩ :: pq (vf k c ws ps) (i+1):List aY)=(⟨6,0,c,n⟩ :: pq (vf k c ws ps) i)++[⟨k,ws[i],c,-ps[i]⟩]:=by
   rw [jo];simp [vf,hi,hiw]
  have hll:=lF (f:=vf k c ws ps) (m:=1) (fun i=>by simp [vf]) i;obtain ⟨L,hL⟩:=aH ((⟨6,0,c,n⟩ :: pq (vf k c ws ps) i:List aY));have hLl:L.length<=i+1:=by rw [hL,List.length_cons];omega
  rw [<- hL] at hs |-;have hlw:(i:Int) < (ws.length:Int):=by omega
  have hlp:(i:Int) < (ps.length:Int):=by omega
  clear cJ;simp only [go_sem,seval,av,hdi,hm,hmw,hw,hwi,aJ];(with_reducible and_intros)<;>first|exact .dq|omega|skip
  refine ah.step () hi trivial ?_;simp only [go_sem,seval];have hsm:=congrArg (List.map aY.cells) hs;simp only [List.map_append,List.map_cons,List.map_nil] at hsm |-;exact hsm.symm
 ·intro _ hdx _;simp only [go_sem,seval,av,hdx];(with_reducible and_intros)<;>first|exact .dq|omega|skip
  refine aa.gen [912] [] false (by simp) ?_;simp only [go_sem,seval];refine aU.intro cJ ?_;simp only [go_sem,seval]
def NR (l:bz) (c n:Int) (ws:List Int):Int:=if iz l c ws=0 then uB 3 c n (pS l c ws) ws (iC l c ws) else iz l c ws
def CW (l:bz) (c n:Int) (ws:List Int):List aY:=if iz l c ws=0 then uv 3 c n (pS l c ws) ws (iC l c ws) else []
theorem Kg (l:bz) (c n:Int) (ws:List Int) (hb:l.bs.length < 2 ^ 30) (hr:∀ b∈l.bs,b.cU) (hl:ws.length < 2 ^ 27):Abs.Spec Tryz.prog 254 [] [.agg l.cells,.int .i64 c,.int .i64 n,.sl 1 (ints ws)] [] (.bI [.sl 4 ((CW l c n ws).map aY.cells),.int .i64 (NR l c n ws)]):=by
 have c1:=uo l c ws hb hr (by omega);have c2:=xj l c ws hb (by omega);have c3:=xS 3 c n (pS l c ws) ws (iC l c ws) (by simp [iC]) hl;simp only [bz.cells] at c1 c2 |-;simp only [CW,NR];refine bu 33 4 [.tmp 8,.tmp 9] mixed Tryz.func254 ?_;simp only [go_sem,seval];(with_reducible and_intros)<;>first|exact .dq|omega|skip
 refine aa.pure c1 ?_
 by_cases b1:iz l c ws=0
 case neg =>
  have d:(iz l c ws==0)=false:=by simpa using b1
  simp only [go_sem,seval,bne,d,if_neg b1]<;>simp
 rw [b1,if_pos rfl,if_pos rfl];simp only [go_sem,seval];(with_reducible and_intros)<;>first|exact .dq|omega|skip
 refine aa.pure c2 ?_;simp only [go_sem,seval];(with_reducible and_intros)<;>first|exact .dq|omega|skip
 refine aa.pure c3 ?_;simp only [go_sem,seval]
def AP (r:aq) (c n:Int) (ws:List Int):Int:=if j0 r ws=0 then (if within c 0 2 then uB 2 c n (uJ r ws) ws (iq r ws) else 3) else j0 r ws
def qa (r:aq) (c n:Int) (ws:List Int):List aY:=if j0 r ws=0&&within c 0 2 then uv 2 c n (uJ r ws) ws (iq r ws) else []
theorem EJ (r:aq) (c n:Int) (ws:List Int) (h:r.jt) (hr:∀ m∈r.ms,m.cU) (hl:ws.length < 2 ^ 27):Abs.Spec Tryz.prog 255 [] [.agg r.cells,.int .i64 c,.int .i64 n,.sl 1 (ints ws)] [] (.bI [.sl 4 ((qa r c n ws).map aY.cells),.int .i64 (AP r c n ws)]):=by
 have c1:=xU r ws h hr (by omega);have c2:=tO r ws h (by omega);have c3:=xS 2 c n (uJ r ws) ws (iq r ws) (by simp [iq]) hl;have c4:=fK c;simp only [aq.cells] at c1 c2 |-;simp only [qa,AP];refine bu 34 4 [.tmp 8,.tmp 9] mixed Tryz.func255 ?_;simp only [go_sem,seval];(with_reducible and_intros)<;>first|exact .dq|omega|skip
 refine aa.pure c1 ?_
 by_cases b1:j0 r ws=0
 case neg =>
  have d:(j0 r ws==0)=false:=by simpa using b1
  simp only [go_sem,seval,bne,d,if_neg b1]<;>simp [b1]
 rw [b1,if_pos rfl];simp only [go_sem,seval];(with_reducible and_intros)<;>first|exact .dq|omega|skip
 refine aa.pure c4 ?_;cases b2:within c 0 2
 ·simp only [go_sem,seval]<;>simp
 simp only [go_sem,seval];(with_reducible and_intros)<;>first|exact .dq|omega|skip
 refine aa.pure c2 ?_;simp only [go_sem,seval];(with_reducible and_intros)<;>first|exact .dq|omega|skip
 refine aa.pure c3 ?_;simp only [go_sem,seval]<;>simp
def sR (ws ps:List Int) (i:Nat):List dV:=if 0 < ps.getD i 0 then [⟨ws.getD i 0,ps.getD i 0,0⟩] else []
def Me (ws ps:List Int):List dV:=pq (sR ws ps) ps.length
def oh (b:aF) (w n k:Int):Int:=if b.okB then (if within k 0 1099511627776 then (if az (qw (posOf w n b.qs).bg n b.qs) < k then 13 else 0) else 3) else 14
def o7 (b:aF) (w n k:Int):List dV:=if oh b w n k=0 then Me (BR (posOf w n b.qs).bg n b.qs) (fS k (qw (posOf w n b.qs).bg n b.qs)) else []
theorem Cr {A:Type} (p:A->Bool) (f g:A->Int):∀ l:List A,(pick p f l).length=(pick p g l).length
 | []=>rfl
 | x :: r=>by
  have:=Cr p f g r;simp only [pick,List.flatMap_cons,List.length_append] at this |-;split<;>simp [this]
theorem Cv {B:Int} (hB:0<=B):∀ {l:List Int},(∀ x∈l,0<=x/\x<=B)->0<=az l/\az l<=B*l.length
 | [],_=>by simp [az]
 | x :: r,h=>by
  have h1:=h x (by simp);have h2:=Cv hB (l:=r) fun y hy=>h y (by simp [hy])
  simp only [az,List.length_cons];push_cast;rw [Int.mul_add];omega
theorem Lr (b:aF) (w n k:Int) (hb:b.small) (hr:∀ p∈b.qs,p.cU) (hq:b.qs.length < 2 ^ 20):Abs.Spec Tryz.prog 266 [] [.agg b.cells,.agg [.int .i64 w,.int .i64 n],.int .i64 k] [.own 3 ((o7 b w n k).map dV.cells)] (.bI [.ref 0,.int .i64 (oh b w n k)]):=by
 have c1:=iA b hb hr;have c2:=fL k 0 1099511627776;simp only [aF.cells] at c1 |-;refine bu 73 3 [.tmp 6,.tmp 7] mixed Tryz.func266 ?_;simp only [go_sem,seval];(with_reducible and_intros)<;>first|exact .dq|omega|skip
 refine aa.pure c1 ?_;cases b1:b.okB
 ·have e:oh b w n k=14:=by simp [oh,b1]
  simp only [go_sem,seval,o7,e]<;>simp
 simp only [go_sem,seval];(with_reducible and_intros)<;>first|exact .dq|omega|skip
 refine aa.pure c2 ?_;cases b2:within k 0 1099511627776
 ·have e:oh b w n k=3:=by simp [oh,b1,b2]
  simp only [go_sem,seval,o7,e]<;>simp
 have e:oh b w n k=if az (qw (posOf w n b.qs).bg n b.qs) < k then 13 else 0:=by simp [oh,b1,b2]
 have hpn:=fun p hp=>Eo (G5 b1 p hp)
 have c3:=FC b w n hb (fun p hp=>⟨(hpn p hp).1,(hpn p hp).2.1⟩);have hsame:(BR (posOf w n b.qs).bg n b.qs).length=(qw (posOf w n b.qs).bg n b.qs).length:=Cr _ _ _ _;have hnl:(qw (posOf w n b.qs).bg n b.qs).length<=b.qs.length:=bW _ _ _;have hnr:∀ x∈qw (posOf w n b.qs).bg n b.qs,0<=x/\x<=1099511627776:=lq fun p hp=>by have:=hpn p hp;omega
 simp only [o7];rw [e];obtain ⟨ns,hns⟩:=aH (qw (posOf w n b.qs).bg n b.qs);obtain ⟨ws,hws⟩:=aH (BR (posOf w n b.qs).bg n b.qs);rw [<- hns] at hsame hnl hnr c3 |-;rw [<- hws] at hsame c3 |-;simp only [aF.cells] at c3;clear hns hws e c1 c2;simp only [go_sem,seval];(with_reducible and_intros)<;>first|exact .dq|omega|skip
 refine aa.pure c3 ?_;clear c3;simp only [go_sem,seval,av];(with_reducible and_intros)<;>first|exact .dq|omega|skip
 refine aC.walk (S:=Unit) ns.length [2,8,9] [] (fun i _=>[(11,.int .i64 i),(10,.int .i64 (az (ns.take i)))]) (fun _ _=>[]) (fun _ _=>True) () trivial ?_ ?_ ?_
 ·simp only [go_sem,seval]<;>simp [az]
 ·intro i _ hi hdi hwi _;have hm:=ints_at ns hi;have hs:az (ns.take (i+1))=az (ns.take i)+ns[i]:=by rw [List.take_succ_eq_append_getElem hi,u7]
  have h1:=Cv (B:=1099511627776) (by decide) (l:=ns.take i) fun x hx=>hnr x (List.mem_of_mem_take hx)
  have h2:=hnr ns[i] (List.getElem_mem hi);have hlt:(ns.take i).length=i:=by simp;omega
  obtain ⟨S,hS⟩:=aH (az (ns.take i));rw [<- hS] at hs h1 |-;rw [hlt] at h1;have hw:IntKind.wrap .i64 (S+ns[i])=S+ns[i]:=bn (by omega) (by omega);have hli:(i:Int) < (ns.length:Int):=by omega
  simp only [go_sem,seval,av,hdi,hm,hw,hwi];(with_reducible and_intros)<;>first|exact .dq|omega|skip
  refine ah.step () hi trivial ?_;simp only [go_sem,seval,hs]
 intro _ hdx _;rw [List.take_length]
 by_cases b3:az ns < k
 ·have d:decide (az ns < k)=true:=decide_eq_true b3;simp only [go_sem,seval,av,hdx,d,if_pos b3]<;>simp
 have d3:decide (az ns < k)=false:=decide_eq_false b3;have c4:=xN k ns (by omega);have hpl:=rS k ns;simp only [if_neg b3];obtain ⟨ps,hps⟩:=aH (fS k ns);rw [<- hps] at c4 hpl |-;simp only [go_sem,seval,av,hdx,d3];(with_reducible and_intros)<;>first|exact .dq|omega|skip
 refine aa.pure c4 ?_;clear c4 hdx;simp only [go_sem,seval,av,if_true];(with_reducible and_intros)<;>first|exact .dq|omega|skip
 refine aC.walk (S:=Unit) ps.length [8,12] [] (fun i _=>[(15,.int .i64 i),(14,.ref 1152)]) (fun i _=>[(1152,.own 3 ((pq (sR ws ps) i).map dV.cells))]) (fun _ _=>True) () trivial ?_ ?_ ?_
 ·simp only [go_sem,seval,kW]<;>simp
 ·intro i _ hi hdi hwi _;have hiw:i < ws.length:=by omega
  have hm:=ints_at ps hi;have hmw:=ints_at ws hiw;have hgp:ps.getD i 0=ps[i]:=by simp [hi]
  have hgw:ws.getD i 0=ws[i]:=by simp [hiw]
  have hs:=jo (sR ws ps) i;have hll:=lF (f:=sR ws ps) (m:=1) (fun i=>by unfold sR;split<;>simp) i;obtain ⟨L,hL⟩:=aH (pq (sR ws ps) i);rw [<- hL] at hs hll |-;simp only [sR,hgp,hgw] at hs;have hlw:(i:Int) < (ws.length:Int):=by omega
  have hlp:(i:Int) < (ps.length:Int):=by omega
  by_cases q:0 < ps[i]
  ·have d:decide (0 < ps[i])=true:=decide_eq_true q;rw [if_pos q] at hs;simp only [go_sem,seval,av,hdi,hm,d,hmw,hwi,aJ];(with_reducible and_intros)<;>first|exact .dq|omega|skip
   refine ah.step () hi trivial ?_;simp only [go_sem,seval,hs]<;>simp
  ·have d:decide (0 < ps[i])=false:=decide_eq_false q;rw [if_neg q,List.append_nil] at hs;simp only [go_sem,seval,av,hdi,hm,d,hwi];(with_reducible and_intros)<;>first|exact .dq|omega|skip
   refine ah.step () hi trivial ?_;simp only [go_sem,seval,hs]
 ·intro _ hdx _;simp only [go_sem,seval,av,hdx,Me]
theorem VM {l:bz} (h:l.okB=true) (w c:Int):0<=fj ⟨3,w,c⟩ l.bs:=by
 simp only [bz.okB,cr] at h
 have hk:∀ b∈l.bs,kM b=true:=fun b hb=>by
  obtain ⟨i,hi,rfl⟩:=List.mem_iff_getElem.1 hb;have:=List.all_eq_true.1 h.1.2 i (List.mem_range.2 hi);rcases Nat.eq_zero_or_pos i with rfl | hp
  ·rwa [jW hi] at this
  ·obtain ⟨j,rfl⟩:∃ j,i=j+1:=⟨i-1,by omega⟩
   rw [jk hi,cr] at this;exact this.1
 clear h;generalize l.bs=bs at hk
 induction bs with
 | nil=>simp [fj]
 | cons b r ih =>
  simp only [fj];split
  ·rename_i hb;have h1:=hk b (by simp);simp only [Wo,cr,beq_iff_eq] at hb;simp only [kM,cr,Bool.not_eq_true',decide_eq_false_iff_not] at h1
   have hf:b.bB.floor=0:=by
    have:=V2 b.bB;rw [h1.1,Bool.true_and] at this;have hk3:(b.bB.kind==3)=true:=by simp [bC.bB,hb.1]
    rw [hk3,Bool.true_or] at this;simpa using this
   rw [hf] at h1;omega
  ·exact ih fun b hb=>hk b (by simp [hb])
def Ci (l:bz) (c:Int) (m:ak):Int:=max (m.need-fj ⟨3,m.no,c⟩ l.bs) 0
def CH (l:bz) (c:Int) (m:ak):Int:=min (Ci l c m) (max (fj ⟨2,m.no,c⟩ l.bs) 0)
def jf (l:bz) (c:Int) (m:ak):List aY:=if m.state==1 then bS ⟨2,m.no,c⟩ ⟨3,m.no,c⟩ (CH l c m) else []
def uN (l:bz) (c:Int) (m:ak):List aQ:=if m.state==1&&decide (CH l c m < Ci l c m) then [⟨m.no,c,Ci l c m-CH l c m⟩] else []
def Vi (l:bz) (r:aq) (c:Int):Bool:=(l.okB&&r.okB)&&within c 0 2
def jB (l:bz) (r:aq) (c:Int):Int:=if l.okB&&r.okB then (if within c 0 2 then nL (r.ms.flatMap (jf l c)) else 3) else 14
def fI (l:bz) (r:aq) (c:Int):List aY:=if Vi l r c then ji (r.ms.flatMap (jf l c)) else []
def iU (l:bz) (r:aq) (c:Int):List aQ:=if Vi l r c then r.ms.flatMap (uN l c) else []
theorem aaK {r:aq} (h:r.okB=true):∀ m∈r.ms,m.ok=true:=by
 simp only [aq.okB,cr] at h;exact fun m hm=>qL h.1.1 m hm
theorem HN (l:bz) (r:aq) (c:Int) (hb:l.bs.length < 2 ^ 30) (hr:∀ b∈l.bs,b.cU) (h:r.jt) (hm:r.ms.length < 2 ^ 27):Abs.Spec Tryz.prog 208 [] [.agg l.cells,.agg r.cells,.int .i64 c] [.own 3 ((iU l r c).map aQ.cells)] (.bI [.sl 4 ((fI l r c).map aY.cells),.ref 0,.int .i64 (jB l r c)]):=by
 have c1:=iL l hb hr;have c2:=dL r h.small;have c3:=fK c;have cO:=fun a=>gV l a hb
 have cM:=fun a b n=>iM a b n
 have hO:∀ a,l.okB=true->bL (fj a l.bs)=true:=fun a h=>Cd h a
 have hF:=fun (h:l.okB=true) w=>VM h w c
 have hJl:=fF (f:=jf l c) (m:=2) (fun m=>by unfold jf;split<;>simp [bS]) r.ms;have cJ:=mP (r.ms.flatMap (jf l c)) (by omega);simp only [bz.cells,aD.cells] at c1 cO cM |-;simp only [aq.cells] at c2 |-;refine bu 93 3 [.tmp 6,.tmp 7,.tmp 8] mixed Tryz.func208 ?_;simp only [go_sem,seval];(with_reducible and_intros)<;>first|exact .dq|omega|skip
 refine aa.pure c1 ?_;cases b1:l.okB
 ·have e:jB l r c=14:=by simp [jB,b1]
  have e1:fI l r c=[]:=by simp [fI,Vi,b1]
  have e2:iU l r c=[]:=by simp [iU,Vi,b1]
  simp only [go_sem,seval,e,e1,e2]<;>simp
 simp only [go_sem,seval];(with_reducible and_intros)<;>first|exact .dq|omega|skip
 refine aa.pure c2 ?_;cases b2:r.okB
 ·have e:jB l r c=14:=by simp [jB,b2]
  have e1:fI l r c=[]:=by simp [fI,Vi,b2]
  have e2:iU l r c=[]:=by simp [iU,Vi,b2]
  simp only [go_sem,seval,e,e1,e2]<;>simp
 simp only [go_sem,seval];(with_reducible and_intros)<;>first|exact .dq|omega|skip
 refine aa.pure c3 ?_;cases b3:within c 0 2
 ·have e:jB l r c=3:=by simp [jB,b1,b2,b3]
  have e1:fI l r c=[]:=by simp [fI,Vi,b3]
  have e2:iU l r c=[]:=by simp [iU,Vi,b3]
  simp only [go_sem,seval,e,e1,e2]<;>simp
 have e:jB l r c=nL (r.ms.flatMap (jf l c)):=by simp [jB,b1,b2,b3]
 have e1:fI l r c=ji (r.ms.flatMap (jf l c)):=by simp [fI,Vi,b1,b2,b3]
 have e2:iU l r c=r.ms.flatMap (uN l c):=by simp [iU,Vi,b1,b2,b3]
 rw [e,e1,e2];have hO:=fun a=>hO a b1
 have hF:=hF b1;have hmo:=aaK b2;clear e e1 e2 c1 c2 c3;simp only [go_sem,seval,aJ];(with_reducible and_intros)<;>first|exact .dq|omega|skip
 refine aC.walk (S:=Unit) r.ms.length [2,3,4] [64,80] (fun i _=>[(11,.int .i64 i),(9,.ref 1152),(10,.ref 1360)]) (fun i _=>[(1152,.own 4 (((r.ms.take i).flatMap (jf l c)).map aY.cells)),(1360,.own 3 (((r.ms.take i).flatMap (uN l c)).map aQ.cells))]) (fun _ _=>True) () trivial ?_ ?_ ?_
 ·simp only [go_sem,seval]<;>simp
 ·intro i _ hi hdi hwi _;have hm:=aG (c:=ak.cells) r.ms hi;have hli:(i:Int) < (r.ms.length:Int):=by omega
  have hlt:(r.ms.take i).length=i:=by simp;omega
  have hs1:=gG (jf l c) hi;have hs2:=gG (uN l c) hi;have hl1:=fF (f:=jf l c) (m:=2) (fun m=>by unfold jf;split<;>simp [bS]) (r.ms.take i);have hl2:=fF (f:=uN l c) (m:=1) (fun m=>by unfold uN;split<;>simp) (r.ms.take i);have hok:=hmo _ (List.getElem_mem hi);obtain ⟨L,hL⟩:=aH ((r.ms.take i).flatMap (jf l c));obtain ⟨M,hM⟩:=aH ((r.ms.take i).flatMap (uN l c));obtain ⟨x,hx⟩:=aH (r.ms[i]);rw [<- hx] at hs1 hs2 hm hok;rw [<- hL] at hs1 hl1;rw [<- hM] at hs2 hl2;rw [<- hL,<- hM];simp only [ak.ok,bL,cr,decide_eq_true_eq] at hok;simp only [ak.cells] at hm;clear cJ hL hM hmo;cases q1:x.state==1
  ·simp only [jf,uN,q1,Bool.false_and,fZ,if_false,List.append_nil] at hs1 hs2;simp only [go_sem,seval,aJ,hdi,hm,bne,q1,hwi];(with_reducible and_intros)<;>first|exact .dq|omega|skip
   refine ah.step () hi trivial ?_;simp only [go_sem,seval,hs1,hs2]
  have h1:=cg.1 (hO ⟨3,x.no,c⟩);have h2:=cg.1 (hO ⟨2,x.no,c⟩);have h3:=hF x.no;have cF:=cO ⟨3,x.no,c⟩;have cC:=cO ⟨2,x.no,c⟩;have cMv:=cM ⟨2,x.no,c⟩ ⟨3,x.no,c⟩ (CH l c x);have hla:Ci l c x=max (x.need-fj ⟨3,x.no,c⟩ l.bs) 0:=rfl;have hfi:CH l c x=min (Ci l c x) (max (fj ⟨2,x.no,c⟩ l.bs) 0):=rfl;simp only [jf,uN,q1,Bool.true_and,if_true] at hs1 hs2;obtain ⟨A,hA⟩:=aH (Ci l c x);obtain ⟨F,hFd⟩:=aH (CH l c x);obtain ⟨f,hf⟩:=aH (fj ⟨3,x.no,c⟩ l.bs);obtain ⟨g,hg⟩:=aH (fj ⟨2,x.no,c⟩ l.bs);rw [<- hA,<- hFd] at hs2;rw [<- hFd] at hs1 cMv;rw [<- hA,<- hf] at hla;rw [<- hFd,<- hA,<- hg] at hfi;rw [<- hf] at cF h1 h3;rw [<- hg] at cC h2;have hw1:IntKind.wrap .i64 (x.need-f)=x.need-f:=bn (by omega) (by omega);have hw2:IntKind.wrap .i64 (A-F)=A-F:=bn (by omega) (by omega);have eA:max (x.need-f) 0=A:=hla.symm;have eF:min A (max g 0)=F:=hfi.symm;have hml:(bS ⟨2,x.no,c⟩ ⟨3,x.no,c⟩ F).length=2:=rfl;obtain ⟨V,hV⟩:=aH (bS ⟨2,x.no,c⟩ ⟨3,x.no,c⟩ F);rw [<- hV] at hs1 cMv hml;clear cO cM hA hFd hf hg hV hO hF;simp only [go_sem,seval,aJ,hdi,hm,bne,q1];(with_reducible and_intros)<;>first|exact .dq|omega|skip
  refine aa.pure cF ?_;simp only [go_sem,seval,hw1,eA];(with_reducible and_intros)<;>first|exact .dq|omega|skip
  refine aa.pure cC ?_;simp only [go_sem,seval,eF];(with_reducible and_intros)<;>first|exact .dq|omega|skip
  refine aa.pure cMv ?_
  by_cases q2:F < A
  ·have d:decide (F < A)=true:=decide_eq_true q2;rw [d,if_pos rfl] at hs2;simp only [go_sem,seval,d,hw2,hwi,aJ,hml];(with_reducible and_intros)<;>first|exact .dq|omega|skip
   refine ah.step () hi trivial ?_;simp only [go_sem,seval,hs1,hs2]<;>simp
  ·have d:decide (F < A)=false:=decide_eq_false q2;rw [d,if_neg (by simp),List.append_nil] at hs2;simp only [go_sem,seval,d,hwi,aJ,hml];(with_reducible and_intros)<;>first|exact .dq|omega|skip
   refine ah.step () hi trivial ?_;simp only [go_sem,seval,hs1,hs2]<;>simp
 ·intro _ hdx _;simp only [go_sem,seval,aJ,hdx,List.take_length];(with_reducible and_intros)<;>first|exact .dq|omega|skip
  refine aa.gen [1152] [] false (by simp) ?_;simp only [go_sem,seval];refine aU.intro cJ ?_;simp only [go_sem,seval]
theorem GJ (l:bz) (r:aq) (c:Int) (hb:l.bs.length < 2 ^ 30) (hr:∀ b∈l.bs,b.cU) (h:r.jt) (hm:r.ms.length < 2 ^ 27):Abs.Spec Tryz.prog 208 [] [.agg l.cells,.agg r.cells,.int .i64 c] [] (.bI [.sl 4 ((fI l r c).map aY.cells),.sl 3 ((iU l r c).map aQ.cells),.int .i64 (jB l r c)]):=by
 refine Spec.frozen (HN l r c hb hr h hm) [0] rfl ?_;intro r;rcases r with _ | r<;>rfl
theorem C6 (k w c:Int):Abs.Spec Tryz.prog 247 [] [.int .i64 k,.int .i64 w,.int .i64 c] [] (.agg [.int .i64 k,.int .i64 w,.int .i64 c]):=by
 refine bu 11 3 [.cell 6 65] mixed Tryz.func247 ?_;simp only [go_sem,seval]
 all_goals (with_reducible and_intros)<;>first|exact .dq|omega|skip
theorem sZ (b:aF) (g:List aB) (hb:b.small) (hr:∀ p∈b.qs,p.cU) (hg:g.length < 2 ^ 29):Abs.Spec Tryz.prog 233 [] [.agg b.cells,.sl 4 (g.map aB.cells)] [] (.bI [.agg (tB b g).cells,.int .i64 (jH b g)]):=by
 refine Spec.frozen (su b g hb hr hg) [0,1] rfl ?_;intro r;rcases r with _ | _ | r<;>rfl
def LA (s:af) (w:Int):Int:=if bD s then (if bJ s.aj w=0 then 10 else if bJ s.aj w=2 then 0 else 14) else 14
theorem MQ (s:af) (w:Int) (hs:s.small) (hr:s.cU):Abs.Spec Tryz.prog 245 [] [.agg s.cells,.int .i64 w] [] (.int .i64 (LA s w)):=by
 have c1:=gN s hs hr;have c2:=mT s w hs.aj.small;simp only [af.cells,LA] at c1 c2 |-;obtain ⟨t,ht⟩:=aH (bJ s.aj w);rw [<- ht] at c2 |-;refine bu 15 2 [.tmp 4] mixed Tryz.func245 ?_;simp only [go_sem,seval];(with_reducible and_intros)<;>first|exact .dq|omega|skip
 refine aa.pure c1 ?_;cases b1:bD s
 ·simp only [go_sem,seval,b1]
 simp only [go_sem,seval,b1];(with_reducible and_intros)<;>first|exact .dq|omega|skip
 refine aa.pure c2 ?_
 by_cases b2:t=0
 ·rw [b2];simp only [go_sem,seval]
  all_goals (with_reducible and_intros)<;>first|exact .dq|omega|skip
 by_cases b3:t=2
 ·rw [b3];simp only [go_sem,seval]
  all_goals (with_reducible and_intros)<;>first|exact .dq|omega|skip
 have d2:(t==0)=false:=by simpa using b2
 have d3:(t==2)=false:=by simpa using b3
 rw [if_neg b2,if_neg b3];simp only [go_sem,seval,d2,d3]
 all_goals (with_reducible and_intros)<;>first|exact .dq|omega|skip
def Fu (s:af) (w n:Int) (b:bM):Bool:=(b.who==w&&b.inst==n)&&bJ s.aj b.src==1
def iF (s:af) (w n:Int) (l:List bM):List bM:=l.flatMap fun b=>if Fu s w n b then [b] else []
def dZ (p:Int) (f:dV):dV:={ f with aX:=p }
def nu (b:aF) (w n:Int) (long:Bool) (f:List dV):aF × Int:=if kG f=0 then (tB b (lu w n long f),jH b (lu w n long f)) else (b,kG f)
def ru (b:aF) (w n p:Int) (long:Bool) (rest:Int):aF × Int:=if oh b w n rest=0 then nu b w n long ((o7 b w n rest).map (dZ p)) else (b,oh b w n rest)
def oL (s:af) (b:aF) (w n q:Int):aF × Int:=
 if oU (bf s.aj n) then
  (if qO q (iF s w n s.bp)=0 then
   (if (nu b w n (decide (0 < q)) (kN q (iF s w n s.bp)).1).2=0/\(kN q (iF s w n s.bp)).2≠0 then
    ru (nu b w n (decide (0 < q)) (kN q (iF s w n s.bp)).1).1 w n (ef (bf s.aj n)) (decide (0 < q)) (kN q (iF s w n s.bp)).2
   else nu b w n (decide (0 < q)) (kN q (iF s w n s.bp)).1)
  else (b,qO q (iF s w n s.bp)))
 else (b,20)
structure aF.gF (b:aF):Prop where
 small:b.small
 short:b.qs.length < 2 ^ 20
 cU:∀ p∈b.qs,p.cU
 ok:∀ p∈b.qs,(-1099511627776<=p.bg/\p.bg<=1099511627776)/\bL p.cost=true
theorem IK {b:aF} (hb:b.gF) (g:List aB):(tB b g).gF:=by
 unfold tB;split
 ·rename_i h;have hok:=(vR h).2.2;refine ⟨⟨hb.small.1,?_⟩,?_,QF h,?_⟩
  ·have:=Ee b g 16
   show (zu b g 16).length < _
   omega
  ·have:=Ee b g 16
   show (zu b g 16).length < _
   omega
  ·intro p hp;obtain ⟨k,m,hk,hm,hp⟩:=zB hp;have:=EW hok hk hm;simp only [Fe,within,cr,decide_eq_true_eq] at this;unfold HC at hp;split at hp
   ·cases hp
   ·obtain rfl:=List.mem_singleton.1 hp;exact ⟨this.2.2,this.2.1⟩
 ·exact ⟨⟨by simp,by simp⟩,by simp,by simp,by simp⟩
theorem yO {b:aF} (hb:b.gF) (w n:Int) (long:Bool) (f:List dV):(nu b w n long f).1.gF:=by
 unfold nu;split
 ·exact IK hb _
 ·exact hb
theorem Ob {b:aF} (hb:b.gF) (w n p:Int) (long:Bool) (rest:Int):(ru b w n p long rest).1.gF:=by
 unfold ru;split
 ·exact yO hb _ _ _ _
 ·exact hb
theorem Oi {s:af} {b:aF} (hb:b.gF) (w n q:Int):(oL s b w n q).1.gF:=by
 unfold oL;split
 ·split
  ·split
   ·exact Ob (yO hb _ _ _ _) _ _ _ _ _
   ·exact yO hb _ _ _ _
  ·exact hb
 ·exact hb
theorem JB (w n:Int) (long:Bool) (f:List dV):(lu w n long f).length<=2*f.length:=by
 unfold lu;split
 ·exact fF (f:=wQ w n long) (fun f=>by simp [wQ]) f
 ·simp
theorem S6 (b:aF) (w n k:Int):(o7 b w n k).length<=b.qs.length:=by
 unfold o7;split
 ·have h1:=lF (f:=sR (BR (posOf w n b.qs).bg n b.qs) (fS k (qw (posOf w n b.qs).bg n b.qs))) (m:=1) (fun i=>by unfold sR;split<;>simp) (fS k (qw (posOf w n b.qs).bg n b.qs)).length;have h2:=rS k (qw (posOf w n b.qs).bg n b.qs);have h3:(qw (posOf w n b.qs).bg n b.qs).length<=b.qs.length:=bW _ _ _;simp only [Me];omega
 ·simp
theorem FL (s:af) (w n:Int) (l:List bM):(iF s w n l).length<=l.length:=by
 have:=fF (f:=fun b=>if Fu s w n b then [b] else []) (m:=1) (fun b=>by split<;>simp) l;simpa [iF] using this
theorem Rf (q:Int) (l:List bM):(kN q l).1.length<=l.length:=by
 unfold kN;split
 ·refine Nat.le_trans (Ir _ _) ?_;rw [DS,Ga];simp
 ·simp
theorem J' (s:af) (b:aF) (w n q:Int) (hs:s.small) (hb:b.gF) (hbl:s.bp.length < 2 ^ 20):Abs.Spec Tryz.prog 246 [] [.agg s.cells,.agg b.cells,.agg [.int .i64 w,.int .i64 n],.int .i64 q] [] (.bI [.agg (oL s b w n q).1.cells,.int .i64 (oL s b w n q).2]):=by
 have c1:=dz s.aj n hs.aj.small;have cS:=fun w=>mT s w hs.aj.small
 have c2:=xB (bf s.aj n);have ep:(if (bf s.aj n).set==0 then (bf s.aj n).aX else (bf s.aj n).set)=ef (bf s.aj n):=rfl;have eh:(!((bf s.aj n).set==0&&(bf s.aj n).aX==0))=oU (bf s.aj n):=rfl;rw [ep,eh] at c2;obtain ⟨x,hx⟩:=aH (bf s.aj n);have hbo:=FL s w n s.bp;have c3:=J9 q (iF s w n s.bp) (by omega);have hfl:=Rf q (iF s w n s.bp);obtain ⟨R,hR⟩:=aH (oL s b w n q);have hR0:=hR;simp only [oL] at hR;obtain ⟨B,hB⟩:=aH (iF s w n s.bp);rw [<- hR0];rw [<- hx] at c1 c2 hR;rw [<- hB] at c3 hfl hbo hR;obtain ⟨f,hf⟩:=aH ((kN q B).1);obtain ⟨rest,hre⟩:=aH ((kN q B).2);rw [<- hf] at c3 hfl hR;rw [<- hre] at c3 hR;have c4:=uA w n (decide (0 < q)) f (by omega);have c5:=sZ b (lu w n (decide (0 < q)) f) hb.small hb.cU (by have:=JB w n (decide (0 < q)) f;omega);obtain ⟨g,hg⟩:=aH (lu w n (decide (0 < q)) f);have hA:nu b w n (decide (0 < q)) f=if kG f=0 then (tB b g,jH b g) else (b,kG f):=by rw [hg];rfl
 rw [hA] at hR;rw [<- hg] at c4 c5;have hb1:=IK hb g;obtain ⟨b1,hb1d⟩:=aH (tB b g);rw [<- hb1d] at hR c5 hb1;obtain ⟨p,hp⟩:=aH (ef x);rw [<- hp] at c2 hR;obtain ⟨long,hlong⟩:=aH (decide (0 < q));rw [<- hlong] at c4 hR;have c6:=Lr b1 w n rest hb1.small hb1.cU hb1.short;have hFl:=S6 b1 w n rest;have hqs:=hb1.short;have hR2:ru b1 w n p long rest=if oh b1 w n rest=0 then nu b1 w n long ((o7 b1 w n rest).map (dZ p)) else (b1,oh b1 w n rest):=rfl
 obtain ⟨F,hF⟩:=aH (o7 b1 w n rest);rw [<- hF] at c6 hFl hR2;have c7:=uA w n long (F.map (dZ p)) (by rw [aJ];omega);have c8:=sZ b1 (lu w n long (F.map (dZ p))) hb1.small hb1.cU (by have:=JB w n long (F.map (dZ p));rw [aJ] at this;omega);have hR3:nu b1 w n long (F.map (dZ p))=if kG (F.map (dZ p))=0 then (tB b1 (lu w n long (F.map (dZ p))),jH b1 (lu w n long (F.map (dZ p)))) else (b1,kG (F.map (dZ p))):=rfl
 rw [hR3] at hR2;obtain ⟨g2,hg2⟩:=aH (lu w n long (F.map (dZ p)));rw [<- hg2] at c7 c8 hR2
 have hR4:R=if oU x=true then (if qO q B=0 then (if kG f=0 then (if jH b g=0/\rest≠0 then ru b1 w n p long rest else (b1,jH b g)) else (b,kG f)) else (b,qO q B)) else (b,20):=by
  rw [hR];by_cases h:kG f=0<;>simp [h]
 rw [hR2] at hR4;clear hR;have hR:=hR4;clear hR4;obtain ⟨b2,hb2⟩:=aH (tB b1 g2);obtain ⟨e1,he1⟩:=aH (kG f);obtain ⟨e2,he2⟩:=aH (jH b g);obtain ⟨e3,he3⟩:=aH (oh b1 w n rest);obtain ⟨e4,he4⟩:=aH (kG (F.map (dZ p)));obtain ⟨e5,he5⟩:=aH (jH b1 g2);obtain ⟨e0,he0⟩:=aH (qO q B);rw [<- hb2,<- he5] at c8;rw [<- he4] at c7;rw [<- he3] at c6;rw [<- he2] at c5;rw [<- he1] at c4;rw [<- he0] at c3;rw [<- he0,<- he1,<- he2,<- he3,<- he4,<- he5,<- hb2] at hR;clear hR0 hx ep eh hf hre hA hg hb1d hp hR2 hR3 hF hg2 hb2 he1 he2 he3 he4 he5 he0 hb1;simp only [aq.cells,ay.cells] at c1 c2;simp only [af.cells] at cS |-;simp only [aF.cells] at c5 c6 c8 |-;refine bu 158 4 [.cell 8 33,.tmp 9] mixed Tryz.func246 ?_;simp only [go_sem,seval];(with_reducible and_intros)<;>first|exact .dq|omega|skip
 refine aa.pure c1 ?_;simp only [go_sem,seval];(with_reducible and_intros)<;>first|exact .dq|omega|skip
 refine aa.pure c2 ?_;cases q1:oU x
 ·rw [q1,if_neg (by simp)] at hR;rw [hR];simp only [go_sem,seval,q1]
  all_goals (with_reducible and_intros)<;>first|exact .dq|omega|skip
 rw [q1,if_pos rfl] at hR;clear c1 c2;simp only [go_sem,seval,q1];(with_reducible and_intros)<;>first|exact .dq|omega|skip
 have hcut:∀ l,iF s w n l=l.flatMap fun b=>if Fu s w n b then [b] else []:=fun l=>rfl
 refine aC.walk (S:=Unit) s.bp.length [3,4,5,6,8,12] [80,96,112,144] (fun i _=>[(15,.int .i64 i),(14,.ref 1360)]) (fun i _=>[(1360,.own 5 ((iF s w n (s.bp.take i)).map bM.cells))]) (fun _ _=>True) () trivial ?_ ?_ ?_
 ·simp only [go_sem,seval]<;>simp [iF]
 ·intro i _ hi hdi hwi _;have hm:=aG (c:=bM.cells) s.bp hi;have hli:(i:Int) < (s.bp.length:Int):=by omega
  have hs1:iF s w n (s.bp.take (i+1))=iF s w n (s.bp.take i)++_:=gG _ hi;have hl1:=FL s w n (s.bp.take i);have hlt:(s.bp.take i).length=i:=by simp;omega
  obtain ⟨y,hy⟩:=aH (s.bp[i]);obtain ⟨L,hL⟩:=aH (iF s w n (s.bp.take i));rw [<- hy] at hm hs1;rw [<- hL] at hs1 hl1 |-;have cS:=cS y.src;simp only [Fu] at hs1;simp only [bM.cells] at hm;clear c3 c4 c5 c6 c7 c8 hR;cases k1:y.who==w
  ·simp only [k1,Bool.false_and,fZ,if_false,List.append_nil] at hs1;simp only [go_sem,seval,aJ,hdi,hm,k1,hwi];(with_reducible and_intros)<;>first|exact .dq|omega|skip
   refine ah.step () hi trivial ?_;simp only [go_sem,seval,hs1]
  cases k2:y.inst==n
  ·simp only [k1,k2,Bool.and_false,Bool.false_and,fZ,if_false,List.append_nil] at hs1;simp only [go_sem,seval,aJ,hdi,hm,k1,k2,hwi];(with_reducible and_intros)<;>first|exact .dq|omega|skip
   refine ah.step () hi trivial ?_;simp only [go_sem,seval,hs1]
  simp only [go_sem,seval,aJ,hdi,hm,k1,k2];(with_reducible and_intros)<;>first|exact .dq|omega|skip
  refine aa.pure cS ?_;cases k3:bJ s.aj y.src==1
  ·simp only [k1,k2,k3,Bool.and_false,fZ,if_false,List.append_nil] at hs1;simp only [go_sem,seval,k3,hwi];(with_reducible and_intros)<;>first|exact .dq|omega|skip
   refine ah.step () hi trivial ?_;simp only [go_sem,seval,hs1]
  simp only [k1,k2,k3,Bool.and_self,if_true] at hs1;simp only [go_sem,seval,k3,aJ,hm,hwi];(with_reducible and_intros)<;>first|exact .dq|omega|skip
  refine ah.step () hi trivial ?_;simp only [go_sem,seval,hs1]<;>simp
 intro _ hdx _;rw [List.take_length,<- hB];clear cS hcut;simp only [go_sem,seval,aJ,hdx];(with_reducible and_intros)<;>first|exact .dq|omega|skip
 refine aa.gen [1360] [] false (by simp) ?_;simp only [go_sem,seval];refine aU.intro c3 ?_;clear c3 hdx
 by_cases k0:e0=0
 case neg =>
  have d:(e0==0)=false:=by simpa using k0
  rw [if_neg k0] at hR;rw [hR];simp only [go_sem,seval,bne,d]
  all_goals (with_reducible and_intros)<;>first|exact .dq|omega|skip
 rw [if_pos k0] at hR;rw [k0];simp only [go_sem,seval];(with_reducible and_intros)<;>first|exact .dq|omega|skip
 rw [<- hlong];refine aa.pure c4 ?_;clear c4
 by_cases k1:e1=0
 case neg =>
  have d:(e1==0)=false:=by simpa using k1
  rw [if_neg k1] at hR;rw [hR];simp only [go_sem,seval,bne,d]
  all_goals (with_reducible and_intros)<;>first|exact .dq|omega|skip
 rw [if_pos k1] at hR;rw [k1];simp only [go_sem,seval];(with_reducible and_intros)<;>first|exact .dq|omega|skip
 refine aa.pure c5 ?_;clear c5
 by_cases k2:e2=0
 case neg =>
  have d:(e2==0)=false:=by simpa using k2
  rw [if_neg (by rintro ⟨h,_⟩;exact k2 h)] at hR;rw [hR];simp only [go_sem,seval,bne,d]
  all_goals (with_reducible and_intros)<;>first|exact .dq|omega|skip
 by_cases k3:rest=0
 ·rw [if_neg (by rintro ⟨_,h⟩;exact h k3)] at hR;rw [hR,k3,k2];simp only [go_sem,seval,bne]
  all_goals (with_reducible and_intros)<;>first|exact .dq|omega|skip
 have d3:(rest==0)=false:=by simpa using k3
 rw [if_pos ⟨k2,k3⟩] at hR;rw [k2];simp only [go_sem,seval,bne,d3];(with_reducible and_intros)<;>first|exact .dq|omega|skip
 refine aa.gen [] [] false (by simp) ?_;simp only [go_sem,seval];refine aU.intro c6 ?_;clear c6;simp only [go_sem,seval,aJ];(with_reducible and_intros)<;>first|exact .dq|omega|skip
 refine aC.walk (S:=Unit) F.length [3,5,6,8,12,18] [96,112,144] (fun i _=>[(20,.int .i64 i),(16,.ref 272)]) (fun i _=>[(272,.own 3 ((pH (dZ p) F i).map dV.cells))]) (fun _ _=>True) () trivial ?_ ?_ ?_
 ·simp only [go_sem,seval,IL]<;>simp
 ·intro i _ hi hdi hwi _;have hlen:=uH (dZ p) F i;have hm:=aG (c:=dV.cells) (pH (dZ p) F i) (i:=i) (by omega);have hset:=FA (dZ p) hi;rw [Kh (dZ p) hi] at hm;obtain ⟨y,hy⟩:=aH (F[i]);obtain ⟨M,hM⟩:=aH (pH (dZ p) F i);rw [<- hy] at hm hset;rw [<- hM] at hm hset hlen |-;have hset2:M.set i { y with aX:=p }=pH (dZ p) F (i+1):=hset;have hli:(i:Int) < (F.length:Int):=by omega
  simp only [dV.cells] at hm;clear c7 c8 hR;simp only [go_sem,seval,aJ,hlen,hdi,hm,hwi];(with_reducible and_intros)<;>first|exact .dq|omega|skip
  all_goals first
   | omega
   | (refine ah.step () hi trivial ?_
      simp only [go_sem,seval,<- hset2,List.map_set])
 intro _ hdx _;have hlen:=uH (dZ p) F F.length;rw [Gj];rw [Gj,aJ] at hlen
 by_cases k4:e3=0
 case neg =>
  have d:(e3==0)=false:=by simpa using k4
  rw [if_neg k4] at hR;rw [hR];simp only [go_sem,seval,aJ,hdx,d]
  all_goals (with_reducible and_intros)<;>first|exact .dq|omega|skip
 rw [if_pos k4] at hR;rw [k4];simp only [go_sem,seval,aJ,hdx];(with_reducible and_intros)<;>first|exact .dq|omega|skip
 refine aa.gen [272] [] false (by simp) ?_;rw [<- hlong];simp only [go_sem,seval];refine aU.intro c7 ?_;clear c7
 by_cases k5:e4=0
 case neg =>
  have d:(e4==0)=false:=by simpa using k5
  rw [if_neg k5] at hR;rw [hR];simp only [go_sem,seval,d]
  all_goals (with_reducible and_intros)<;>first|exact .dq|omega|skip
 rw [if_pos k5] at hR;rw [k5];simp only [go_sem,seval];(with_reducible and_intros)<;>first|exact .dq|omega|skip
 refine aa.pure c8 ?_;rw [hR];simp only [go_sem,seval]
 all_goals (with_reducible and_intros)<;>first|exact .dq|omega|skip
def dH (s:af) (w:Int):List Int:=pick (fun x=>!(x==w)) (fun x=>x) (gB s.aj [1])
theorem yu (r:aq) (ss:List Int):(gB r ss).length<=r.ms.length:=bW _ _ _
theorem Ds (s:af) (w:Int):(dH s w).length<=s.aj.ms.length:=Nat.le_trans (bW _ _ _) (yu _ _)
theorem DX (s:af) (w:Int) (hs:s.small):Abs.Spec Tryz.prog 250 [] [.agg s.cells,.int .i64 w] [.own 1 (ints (dH s w))] (.ref 0):=by
 have c1:=xy s.aj [1] hs.aj (by simp);have hl:=yu s.aj [1];have hml:=hs.aj.1;obtain ⟨l,hld⟩:=aH (gB s.aj [1]);simp only [dH];rw [<- hld] at c1 hl |-;simp only [aq.cells,ints,List.map_cons,List.map_nil] at c1;have hE:(l.map fun x=>[D.int .i64 x])=ints l:=rfl;rw [hE] at c1;simp only [af.cells];clear hld hE;refine bu 32 2 [.tmp 4] mixed Tryz.func250 ?_;simp only [go_sem,seval];(with_reducible and_intros)<;>first|exact .dq|omega|skip
 refine aa.gen [176] [] false (by simp) ?_;simp only [go_sem,seval];refine aU.intro c1 ?_;simp only [go_sem,seval,av];(with_reducible and_intros)<;>first|exact .dq|omega|skip
 refine aC.walk (S:=Unit) l.length [1,6] [] (fun i _=>[(7,.int .i64 i),(5,.ref 496)]) (fun i _=>[(496,.own 1 (ints (pick (fun x=>!(x==w)) (fun x=>x) (l.take i))))]) (fun _ _=>True) () trivial ?_ ?_ ?_
 ·simp only [go_sem,seval]<;>simp [pick,ints]
 ·intro i _ hi hdi hwi _;have hm:=ints_at l hi;have hst:=fU (fun x:Int=>!(x==w)) (fun x=>x) hi;have hlen:=bW (fun x:Int=>!(x==w)) (fun x=>x) (l.take i);have hlt:(l.take i).length=i:=by simp;omega
  have hli:(i:Int) < (l.length:Int):=by omega
  obtain ⟨L,hL⟩:=aH (pick (fun x:Int=>!(x==w)) (fun x=>x) (l.take i));obtain ⟨x,hx⟩:=aH (l[i]);rw [<- hx] at hm hst;rw [<- hL] at hst hlen |-;clear c1;cases q:x==w
  ·simp only [q,Bool.not_false,if_true] at hst;simp only [go_sem,seval,av,hdi,hm,bne,q,hwi];(with_reducible and_intros)<;>first|exact .dq|omega|skip
   refine ah.step () hi trivial ?_;simp only [go_sem,seval,hst]
  ·simp only [q,Bool.not_true,fZ,if_false,List.append_nil] at hst;simp only [go_sem,seval,av,hdi,hm,bne,q,hwi];(with_reducible and_intros)<;>first|exact .dq|omega|skip
   refine ah.step () hi trivial ?_;simp only [go_sem,seval,hst]
 ·intro _ hdx _;simp only [go_sem,seval,av,hdx,List.take_length]
theorem qX (s:af) (w:Int) (hs:s.small):Abs.Spec Tryz.prog 250 [] [.agg s.cells,.int .i64 w] [] (.sl 1 (ints (dH s w))):=by
 refine Spec.frozen (DX s w hs) [0] rfl ?_;intro r;rcases r with _ | r<;>rfl
def Ie (s:af) (w c:Int) (p:dS):Bool:=p.who==w&&(mz s.aj p.bG).b==c
def Bk (s:af) (p:dS):Int:=p.units*(mz s.aj p.bG).c
def CX (s:af) (w c:Int):List Int:=pick (Ie s w c) (Bk s) s.ps
def vh (s:af) (w c:Int):Int:=az (CX s w c)
def tV (s:af) (w c:Int):Int:=if bL (vh s w c) then vh s w c else 0
theorem Qz {r:aq} (h:r.okB=true) (n:Int):0<=(mz r n).c/\(mz r n).c<=1073741824:=by
 simp only [aq.okB,cr] at h;refine BE (R:=fun a:au=>0<=a.c/\a.c<=1073741824) (by decide) fun a ha=>?_
 have:=qL h.2 a ha;simp only [au.ok,within,cr,decide_eq_true_eq] at this;omega
theorem Ru {s:af} (h1:s.aj.okB=true) (h2:gj s.ps=true):∀ p∈s.ps,0<=Bk s p/\Bk s p<=1180591620717411303424:=fun p hp=>by
 have ha:=Qz h1 p.bG;have hu:=((gY.1 h2).1 p hp).2;have h3:=fQ (a:=p.units) (b:=(mz s.aj p.bG).c) (A:=1099511627776) (B:=1073741824) (by omega) (by omega);have h4:=Int.mul_nonneg (show 0<=p.units by omega) ha.1;simp only [Bk];omega
theorem So {s:af} (h1:s.aj.okB=true) (h2:gj s.ps=true) (hl:s.ps.length < 2 ^ 30) (w c:Int):qI (vh s w c)=true/\∀ n∈CX s w c,qI n=true:=by
 have hr:∀ n∈CX s w c,0<=n/\n<=1180591620717411303424:=lq fun p hp=>Ru h1 h2 p hp
 have hs:=Cv (B:=1180591620717411303424) (by decide) hr;have hlen:(CX s w c).length<=s.ps.length:=bW _ _ _;constructor
 ·have e:vh s w c=az (CX s w c):=rfl;rw [e];simp only [qI,cr,decide_eq_true_eq];constructor<;>omega
 ·intro n hn;have:=hr n hn;simp only [qI,cr,decide_eq_true_eq];omega
theorem Bz (s:af) (w c:Int) (hs:s.small) (h1:s.aj.okB=true) (h2:gj s.ps=true):Abs.Spec Tryz.prog 248 [] [.agg s.cells,.int .i64 w,.int .i64 c] [] (.bI [.int .i64 (tV s w c),.bool (bL (vh s w c))]):=by
 have cH:∀ n,Abs.Spec Tryz.prog 95 [] [.agg s.aj.cells,.int .i64 n] [] (.bI [.agg (mz s.aj n).cells,.bool (jN s.aj n)]):=fun n=>lg s.aj n hs.aj.small
 obtain ⟨hin,hall⟩:=So h1 h2 hs.ps w c;have hll:(CX s w c).length<=s.ps.length:=bW _ _ _;have hpl:=hs.ps;have cSum:=kr (CX s w c) (by omega) hall;have cI:=kB (vh s w c);have eS:az (CX s w c)=vh s w c:=rfl;rw [eS,hin,if_pos rfl] at cSum;have eN:(if bL (vh s w c) then vh s w c else 0)=tV s w c:=rfl;rw [eN] at cI;have hast:=fun n=>Qz h1 n
 have hu:=fun p hp=>((gY.1 h2).1 p hp).2
 simp only [wd] at cSum cI;simp only [af.cells];simp only [aq.cells] at cH;clear h1 h2 hin hall eS eN;refine bu 76 3 [.tmp 6,.tmp 7] mixed Tryz.func248 ?_;simp only [go_sem,seval,oR];refine aC.walk (S:=Unit) s.ps.length [1,2,3] [64] (fun i _=>[(9,.int .i64 i),(8,.ref 976)]) (fun i _=>[(976,.own 2 (kD (pick (Ie s w c) (Bk s) (s.ps.take i))))]) (fun _ _=>True) () trivial ?_ ?_ ?_
 ·simp only [go_sem,seval]<;>simp [pick,kD]
 ·intro i _ hi hdi hwi _;have hm:=nq s.ps hi;have hs1:=vI (Ie s w c) (Bk s) hi;have hlen:=bW (Ie s w c) (Bk s) (s.ps.take i);have hlt:(s.ps.take i).length=i:=by simp;omega
  have hli:(i:Int) < (s.ps.length:Int):=by omega
  have hui:=hu _ (List.getElem_mem hi);obtain ⟨L,hL⟩:=aH (pick (Ie s w c) (Bk s) (s.ps.take i));obtain ⟨x,hx⟩:=aH (s.ps[i]);rw [<- hx] at hm hs1 hui;rw [<- hL] at hs1 hlen |-;have cHi:=cH x.bG;have hai:=hast x.bG;simp only [Ie,Bk] at hs1;obtain ⟨a,ha⟩:=aH (mz s.aj x.bG);rw [<- ha] at cHi hai;simp only [<- ha] at hs1;have cT:=lX x.units a.c ⟨by omega,by omega⟩ ⟨by omega,by omega⟩;have hwl:(kD L).length<=i:=by rw [zx];omega
  simp only [au.cells] at cHi;simp only [wd] at cT;clear cH cSum cI hast hu;simp only [go_sem,seval,oR,hdi,hm];(with_reducible and_intros)<;>first|exact .dq|omega|skip
  refine aa.pure cHi ?_;cases q1:x.who==w
  ·simp only [q1,Bool.false_and,fZ,if_false,List.append_nil] at hs1;simp only [go_sem,seval,oR,hm,q1,hwi];(with_reducible and_intros)<;>first|exact .dq|omega|skip
   refine ah.step () hi trivial ?_;simp only [go_sem,seval,hs1]
  cases q2:a.b==c
  ·simp only [q1,q2,Bool.and_false,fZ,if_false,List.append_nil] at hs1;simp only [go_sem,seval,oR,hm,q1,q2,hwi];(with_reducible and_intros)<;>first|exact .dq|omega|skip
   refine ah.step () hi trivial ?_;simp only [go_sem,seval,hs1]
  simp only [q1,q2,Bool.and_self,if_true] at hs1;simp only [go_sem,seval,oR,hm,q1,q2];(with_reducible and_intros)<;>first|exact .dq|omega|skip
  refine aa.pure cT ?_;simp only [go_sem,seval,hwi];(with_reducible and_intros)<;>first|exact .dq|omega|skip
  refine ah.step () hi trivial ?_;simp only [go_sem,seval,hs1]<;>simp [kD,wd]
 ·intro _ hdx _;simp only [go_sem,seval,oR,hdx,List.take_length];(with_reducible and_intros)<;>first|exact .dq|omega|skip
  refine aa.gen [] [] true (by simp) ?_;simp only [go_sem,seval];refine aU.intro cSum ?_;simp only [go_sem,seval];(with_reducible and_intros)<;>first|exact .dq|omega|skip
  refine aa.pure cI ?_;simp only [go_sem,seval]
  all_goals (with_reducible and_intros)<;>first|exact .dq|omega|skip
def iB (s:af) (w:Int) (b:aF) (n:Int):aF × Int:=if (posOf w n b.qs).bg==0 then (b,0) else oL s b w n (posOf w n b.qs).bg
def mX (s:af) (w:Int):Nat->Nat->aF->aF × Int
 | 0,_,b=>(b,0)
 | m+1,i,b=>if (iB s w b ((i:Int)+1)).2=0 then mX s w m (i+1) (iB s w b ((i:Int)+1)).1 else ((iB s w b ((i:Int)+1)).1,(iB s w b ((i:Int)+1)).2)
def nH (w:Int) (l:List aB):List aB:=l.flatMap fun p=>if p.who==w then [] else [p]
def Oq (s:af) (w:Int) (p:aB):List aQ:=if p.who==w then [⟨w,(bf s.aj p.inst).cur,gZ p (bf s.aj p.inst).mult 0⟩] else []
def pZ (s:af) (w:Int) (l:List aB):List aQ:=l.flatMap (Oq s w)
def DY (s:af) (w:Int) (l:List aB):Bool:=l.all fun p=>!(p.who==w)||bL (gZ p (bf s.aj p.inst).mult 0)
def ot (s:af) (w:Int):Int:=if LA s w=0 then (if (mX s w 8 0 s.book).2=0 then (if DY s w (mX s w 8 0 s.book).1.qs then 0 else 1) else (mX s w 8 0 s.book).2) else LA s w
def pP (s:af) (w:Int):aF:=if ot s w=0 then ⟨(mX s w 8 0 s.book).1.next,(mX s w 8 0 s.book).1.ts,nH w (mX s w 8 0 s.book).1.qs⟩ else ⟨0,[],[]⟩
def rH (s:af) (w:Int):List aQ:=if ot s w=0 then pZ s w (mX s w 8 0 s.book).1.qs else []
theorem rW {s:af} {w:Int} {b:aF} (hb:b.gF) (n:Int):(iB s w b n).1.gF:=by
 unfold iB;split
 ·exact hb
 ·exact Oi hb _ _ _
theorem Ck {s:af} {w:Int}:∀ (m i:Nat) {b:aF},b.gF->(mX s w m i b).1.gF
 | 0,_,_,hb=>hb
 | m+1,i,b,hb=>by
  simp only [mX];split
  ·exact Ck m _ (rW hb _)
  ·exact rW hb _
theorem vQ {s:af} {w:Int} (h:LA s w=0):bD s=true/\bJ s.aj w=2:=by
 unfold LA at h;split at h
 ·split at h
  ·cases h
  ·split at h
   ·exact ⟨by assumption,by assumption⟩
   ·cases h
 ·cases h
theorem p6 {s:af} (h:bD s=true):s.aj.okB=true/\s.book.okB=true/\s.aW.okB=true/\gj s.ps=true/\mO bV bQ s.calls=true:=by
 simp only [bD,cr] at h;exact ⟨h.2.1,h.2.2.1,h.2.2.2.1,h.2.2.2.2.1,h.2.2.2.2.2.1⟩
theorem Tn {r:aq} (h:r.okB=true) (n:Int):0<=(bf r n).mult/\(bf r n).mult<=1024:=by
 simp only [aq.okB,cr] at h;refine BE (R:=fun x:ay=>0<=x.mult/\x.mult<=1024) (by decide) fun x hx=>?_
 have:=qL h.1.2 x hx;simp only [ay.ok,within,cr,decide_eq_true_eq] at this;omega
theorem IW {b:aF} (h:b.okB=true) (hs:b.small) (hq:b.qs.length < 2 ^ 20) (hr:∀ p∈b.qs,p.cU):b.gF:=
 ⟨hs,hq,hr,fun p hp=>by have:=Eo (G5 h p hp);exact ⟨⟨this.1,this.2.1⟩,this.2.2⟩⟩
theorem Cu (s:af) (w:Int) (hs:s.small) (hr:s.cU) (hq:s.book.qs.length < 2 ^ 20) (hbl:s.bp.length < 2 ^ 20):Abs.Spec Tryz.prog 203 [] [.agg s.cells,.int .i64 w] [.own 4 ((pP s w).qs.map aB.cells),.own 3 ((rH s w).map aQ.cells)] (.bI [.agg [.int .i64 (pP s w).next,.sl 7 ((pP s w).ts.map aL.cells),.ref 0],.ref 1,.int .i64 (ot s w)]):=by
 have c1:=MQ s w hs hr;have c2:=nC s.book hs.book;have cSell:=fun b n q hb=>J' s b w n q hs hb hbl
 have cI:=fun n=>dz s.aj n hs.aj.small
 have hme:=@vQ s w;simp only [pP,rH,ot];obtain ⟨me,hmed⟩:=aH (LA s w);rw [<- hmed] at c1 hme;simp only [<- hmed];have c1':=c1;simp only [af.cells] at c1 cSell |-;simp only [aF.cells] at c2;simp only [aq.cells] at cI;clear c1' hmed;refine bu 110 2 [.cell 4 33,.tmp 5,.tmp 6] mixed Tryz.func203 ?_;simp only [go_sem,seval];(with_reducible and_intros)<;>first|exact .dq|omega|skip
 refine aa.pure c1 ?_;clear c1
 by_cases b1:me=0
 case neg =>
  have d:(me==0)=false:=by simpa using b1
  simp only [if_neg b1];simp only [go_sem,seval,bne,d]
  all_goals simp
 obtain ⟨hright,_⟩:=hme b1;obtain ⟨hroll,hbook,_⟩:=p6 hright;have hfine:=IW hbook hs.book hq hr.qs;have hmu:=fun n=>Tn hroll n
 simp only [b1,if_true];obtain ⟨R,hR⟩:=aH (mX s w 8 0 s.book);have hRf:R.1.gF:=by rw [hR];exact Ck 8 0 hfine
 simp only [<- hR];clear hme hright hroll hbook b1;simp only [go_sem,seval];(with_reducible and_intros)<;>first|exact .dq|omega|skip
 refine aa.pure c2 ?_;clear c2;simp only [go_sem,seval];(with_reducible and_intros)<;>first|exact .dq|omega|skip
 refine aC.walk (S:=aF) 8 [1,2,4,8] [48,80] (fun i _=>[(9,.int .i64 ((i:Int)+1))]) (fun _ b=>[(144,.box [.int .i64 b.next,.sl 7 (b.ts.map aL.cells),.sl 4 (b.qs.map aB.cells)])]) (fun i b=>mX s w (8-i) i b=R/\b.gF) s.book ⟨hR.symm,hfine⟩ ?_ ?_ ?_
 ·simp only [go_sem,seval]<;>simp
 ·rintro i b hi _ _ ⟨hI,hb⟩
  obtain ⟨n,hn⟩:=aH ((i:Int)+1);have hd:decide (n<=8)=true:=decide_eq_true (by omega);have hwn:IntKind.wrap .i64 (n+1)=((i+1:Nat):Int)+1:=by rw [bn (by omega) (by omega)];omega
  obtain ⟨m,hm⟩:∃ m,8-i=m+1:=⟨8-i-1,by omega⟩
  have hm2:8-(i+1)=m:=by omega
  rw [hm] at hI;simp only [mX,<- hn] at hI;have hsf:=rW (s:=s) (w:=w) hb n;have c3:=nU b w n hb.small;have c4:=cSell b n (posOf w n b.qs).bg hb;have hst:iB s w b n=if (posOf w n b.qs).bg==0 then (b,0) else oL s b w n (posOf w n b.qs).bg:=rfl
  obtain ⟨p,hp⟩:=aH (posOf w n b.qs);rw [<- hp] at c3 c4 hst;rw [<- hn];simp only [aF.cells,aB.cells] at c3 c4;clear cSell cI hp;cases q1:p.bg==0
  case true =>
   simp only [q1,if_true] at hst;rw [hst] at hI;simp only [if_true] at hI;simp only [go_sem,seval,hd];(with_reducible and_intros)<;>first|exact .dq|omega|skip
   refine aa.pure c3 ?_;simp only [go_sem,seval,q1,hwn];(with_reducible and_intros)<;>first|exact .dq|omega|skip
   refine ah.step b hi ⟨by rw [hm2];exact hI,hb⟩ ?_;simp only [go_sem,seval]
  simp only [q1,fZ,if_false] at hst;rw [hst] at hI hsf;obtain ⟨X,hX⟩:=aH (oL s b w n p.bg);rw [<- hX] at hI hsf c4;simp only [go_sem,seval,hd];(with_reducible and_intros)<;>first|exact .dq|omega|skip
  refine aa.pure c3 ?_;simp only [go_sem,seval,q1];(with_reducible and_intros)<;>first|exact .dq|omega|skip
  refine aa.pure c4 ?_
  by_cases q2:X.2=0
  ·rw [if_pos q2] at hI;rw [q2];simp only [go_sem,seval,bne,hwn];(with_reducible and_intros)<;>first|exact .dq|omega|skip
   refine ah.step X.1 hi ⟨by rw [hm2];exact hI,hsf⟩ ?_;simp only [go_sem,seval]
  ·have d:(X.2==0)=false:=by simpa using q2
   rw [if_neg q2] at hI;have hR2:R.2=X.2:=by rw [<- hI]
   simp only [hR2,if_neg q2];simp only [go_sem,seval,bne,d]
   all_goals simp
 ·rintro b _ ⟨hI,hb⟩
  have hI:(b,0)=R:=hI;simp only [<- hI,if_true];have c5:=nC b hb.small;have hbs:=hb.small.2;simp only [aF.cells] at c5;clear cSell hI hRf hR;have ecut:(if (if DY s w b.qs=true then (0:Int) else 1)=0 then (⟨b.next,b.ts,nH w b.qs⟩:aF) else ⟨0,[],[]⟩)=if DY s w b.qs=true then ⟨b.next,b.ts,nH w b.qs⟩ else ⟨0,[],[]⟩:=by cases DY s w b.qs<;>rfl
  have ecut2:(if (if DY s w b.qs=true then (0:Int) else 1)=0 then pZ s w b.qs else [])=if DY s w b.qs=true then pZ s w b.qs else []:=by cases DY s w b.qs<;>rfl
  rw [ecut,ecut2];clear ecut ecut2;simp only [go_sem,seval];(with_reducible and_intros)<;>first|exact .dq|omega|skip
  refine aa.pure c5 ?_;clear c5;simp only [go_sem,seval,aJ];(with_reducible and_intros)<;>first|exact .dq|omega|skip
  refine aC.walk (S:=Unit) b.qs.length [1,2,4,8,12] [48,80,144] (fun i _=>[(14,.int .i64 i),(13,.ref 1728)]) (fun i _=>[(208,.box [.int .i64 b.next,.sl 7 (b.ts.map aL.cells),.ref 1280]),(1280,.own 4 ((nH w (b.qs.take i)).map aB.cells)),(1728,.own 3 ((pZ s w (b.qs.take i)).map aQ.cells))]) (fun i _=>DY s w (b.qs.drop i)=DY s w b.qs) () rfl ?_ ?_ ?_
  ·simp only [go_sem,seval]<;>simp [nH,pZ]
  ·intro i _ hi hdi hwi hI;have hm:=aG (c:=aB.cells) b.qs hi;have hli:(i:Int) < (b.qs.length:Int):=by omega
   have hlt:(b.qs.take i).length=i:=by simp;omega
   have hs1:nH w (b.qs.take (i+1))=nH w (b.qs.take i)++_:=gG _ hi;have hs2:pZ s w (b.qs.take (i+1))=pZ s w (b.qs.take i)++_:=gG _ hi;have hl1:(nH w (b.qs.take i)).length<=1*(b.qs.take i).length:=fF (fun p=>by split<;>simp) _;have hl2:(pZ s w (b.qs.take i)).length<=1*(b.qs.take i).length:=fF (fun p=>by unfold Oq;split<;>simp) _;have hxo:=hb.ok _ (List.getElem_mem hi);obtain ⟨x,hx⟩:=aH (b.qs[i]);obtain ⟨K,hK⟩:=aH (nH w (b.qs.take i));obtain ⟨V,hV⟩:=aH (pZ s w (b.qs.take i));rw [dN hi,<- hx] at hI;rw [<- hx] at hm hs1 hs2 hxo;rw [<- hK] at hs1 hl1;rw [<- hV] at hs2 hl2;rw [<- hK,<- hV];have hc:DY s w (x :: b.qs.drop (i+1))=((!(x.who==w)||bL (gZ x (bf s.aj x.inst).mult 0))&&DY s w (b.qs.drop (i+1))):=rfl;rw [hc] at hI;have cIx:=cI x.inst;have hmux:=hmu x.inst;simp only [Oq] at hs2;obtain ⟨y,hy⟩:=aH (bf s.aj x.inst);rw [<- hy] at cIx hmux hI;simp only [<- hy] at hs2;have cW:=xp x y.mult 0 ⟨by omega,by omega⟩ hxo.2 hmux ⟨by omega,by omega⟩;simp only [aB.cells] at hm cW;simp only [ay.cells] at cIx;clear cI hmu hK hV hy;cases q1:x.who==w
   ·simp only [q1,fZ,if_false,List.append_nil] at hs1 hs2;simp only [q1,Bool.not_false,Bool.true_or,Bool.true_and] at hI;simp only [go_sem,seval,aJ,hdi,hm,bne,q1,hwi];(with_reducible and_intros)<;>first|exact .dq|omega|skip
    refine ah.step () hi hI ?_;simp only [go_sem,seval,hs1,hs2]<;>simp
   simp only [q1,if_true,List.append_nil] at hs1 hs2;simp only [q1,Bool.not_true,Bool.false_or] at hI;simp only [go_sem,seval,aJ,hdi,hm,bne,q1];(with_reducible and_intros)<;>first|exact .dq|omega|skip
   refine aa.pure cIx ?_;simp only [go_sem,seval];(with_reducible and_intros)<;>first|exact .dq|omega|skip
   refine aa.pure cW ?_;cases q2:bL (gZ x y.mult 0)
   ·rw [q2,Bool.false_and] at hI;rw [<- hI];simp only [go_sem,seval,q2]
    all_goals simp
   rw [q2,Bool.true_and] at hI;simp only [go_sem,seval,q2,hwi,aJ,if_true];(with_reducible and_intros)<;>first|exact .dq|omega|skip
   refine ah.step () hi hI ?_;simp only [go_sem,seval,hs1,hs2]<;>simp
  ·intro _ hdx hI;rw [List.drop_length] at hI;rw [<- hI,show DY s w []=true from rfl];simp only [go_sem,seval,aJ,hdx,List.take_length]
   all_goals simp
theorem AG (s:af) (w:Int) (hs:s.small) (hr:s.cU) (hq:s.book.qs.length < 2 ^ 20) (hbl:s.bp.length < 2 ^ 20):Abs.Spec Tryz.prog 203 [] [.agg s.cells,.int .i64 w] [] (.bI [.agg (pP s w).cells,.sl 3 ((rH s w).map aQ.cells),.int .i64 (ot s w)]):=by
 refine Spec.frozen (Cu s w hs hr hq hbl) [0,1] rfl ?_;intro r;rcases r with _ | _ | r<;>rfl
def FZ (s:af) (w c gain:Int):Int:=az [gain,min (fj ⟨2,w,c⟩ s.aW.bs) 0]
def SQ (s:af) (w c gain:Int):Int:=az [max (fj ⟨2,w,c⟩ s.aW.bs) 0,tV s w c,max (FZ s w c gain) 0]
def UI (s:af) (w c gain:Int):Bool:=(bL (vh s w c)&&bL (FZ s w c gain))&&(bL (SQ s w c gain)&&(iz s.aW c (dH s w)==0&&j0 s.aj (dH s w)==0))
def pK (s:af) (w c gain:Int):Int:=if bD s then (if bJ s.aj w=0 then 10 else if within c 0 2&&bL gain then (if UI s w c gain then 0 else 1) else 3) else 14
def tq (s:af) (w c gain:Int):List Int:=if pK s w c gain=0 then [SQ s w c gain,fj ⟨3,w,c⟩ s.aW.bs,fj ⟨4,0,c⟩ s.aW.bs,pS s.aW c (dH s w),uJ s.aj (dH s w)] else []
def De (s:af) (w c gain:Int):Int:=if pK s w c gain=0 then max (-FZ s w c gain) 0 else 0
theorem Kf {l:List Int} (h:bL (az l)=true):addN l=az l:=by simp [addN,h]
theorem Tj (s:af) (w c:Int):bL (tV s w c)=true:=by
 unfold tV;split
 ·assumption
 ·rfl
theorem MX (s:af) (w c gain:Int) (hs:s.small) (hr:s.cU) (hm:s.aj.ms.length < 2 ^ 27):Abs.Spec Tryz.prog 205 [] [.agg s.cells,.int .i64 w,.int .i64 c,.int .i64 gain] [.own 1 (ints (tq s w c gain))] (.bI [.int .i64 (De s w c gain),.ref 0,.int .i64 (pK s w c gain)]):=by
 have c1:=gN s hs hr;have c2:=mT s w hs.aj.small;have c3:=fK c;have c4:=dn gain;have cA:=fun k w=>C6 k w c
 have cO:=fun a=>gV s.aW a hs.aW
 have c5:=qX s w hs;have hol:=Ds s w;have c6:=uo s.aW c (dH s w) hs.aW hr.bs (by omega);have c7:=xU s.aj (dH s w) hs.aj hr.ms (by omega);have cSold:=Bz s w c hs;have hrp:=@p6 s;simp only [aD.cells,bz.cells] at cO;simp only [bz.cells] at c6;simp only [aq.cells] at c7;obtain ⟨t,ht⟩:=aH (bJ s.aj w);obtain ⟨E,hE⟩:=aH (pK s w c gain);have hE0:=hE;simp only [pK,<- ht] at hE;simp only [tq,De,<- hE0];rw [<- ht] at c2;simp only [af.cells] at c1 c2 c5 cSold |-;clear ht hE0 hol;refine bu 120 4 [.tmp 8,.tmp 9,.tmp 10] mixed Tryz.func205 ?_;simp only [go_sem,seval];(with_reducible and_intros)<;>first|exact .dq|omega|skip
 refine aa.pure c1 ?_;clear c1;cases b1:bD s
 ·rw [b1,if_neg (by simp)] at hE;rw [hE];simp only [go_sem,seval,b1]<;>simp [ints]
 obtain ⟨hroll,hbook,hled,hps,_⟩:=hrp b1;have cSold:=cSold hroll hps;rw [b1,if_pos rfl] at hE;simp only [go_sem,seval,b1];(with_reducible and_intros)<;>first|exact .dq|omega|skip
 refine aa.pure c2 ?_;clear c2
 by_cases b2:t=0
 ·rw [if_pos b2] at hE;rw [hE,b2];simp only [go_sem,seval]<;>simp [ints]
 have d2:(t==0)=false:=by simpa using b2
 rw [if_neg b2] at hE;simp only [go_sem,seval,d2];(with_reducible and_intros)<;>first|exact .dq|omega|skip
 refine aa.pure c3 ?_;clear c3;cases b3:within c 0 2
 ·rw [b3,Bool.false_and,if_neg (by simp)] at hE;rw [hE];simp only [go_sem,seval]<;>simp [ints]
 simp only [go_sem,seval];(with_reducible and_intros)<;>first|exact .dq|omega|skip
 refine aa.pure c4 ?_;clear c4;cases b4:bL gain
 ·rw [b4,Bool.and_false,if_neg (by simp)] at hE;rw [hE];simp only [go_sem,seval]<;>simp [ints]
 rw [b3,b4,Bool.and_self,if_pos rfl] at hE;have hg:=cg.1 b4;have hcash:=Cd hled ⟨2,w,c⟩;have hcr:=cg.1 hcash;have c8:=cE [gain,min (fj ⟨2,w,c⟩ s.aW.bs) 0] (by intro n hn;simp only [List.mem_cons,List.not_mem_nil,or_false] at hn;rcases hn with rfl | rfl<;>exact ⟨by omega,by omega⟩) (by simp);have eX:az [gain,min (fj ⟨2,w,c⟩ s.aW.bs) 0]=FZ s w c gain:=rfl;have hX:bL (FZ s w c gain)=true->addN [gain,min (fj ⟨2,w,c⟩ s.aW.bs) 0]=FZ s w c gain:=fun h=>Kf h
 have hsn:=cg.1 (Tj s w c);have c9:=fun (h:bL (FZ s w c gain)=true)=>cE [max (fj ⟨2,w,c⟩ s.aW.bs) 0,tV s w c,max (FZ s w c gain) 0] (by have:=cg.1 h;intro n hn;simp only [List.mem_cons,List.not_mem_nil,or_false] at hn;rcases hn with rfl | rfl | rfl<;>exact ⟨by omega,by omega⟩) (by simp)
 have eF:az [max (fj ⟨2,w,c⟩ s.aW.bs) 0,tV s w c,max (FZ s w c gain) 0]=SQ s w c gain:=rfl;have hF:bL (SQ s w c gain)=true->addN [max (fj ⟨2,w,c⟩ s.aW.bs) 0,tV s w c,max (FZ s w c gain) 0]=SQ s w c gain:=fun h=>Kf h
 rw [eX] at c8;simp only [eF] at c9;simp only [UI] at hE;simp only [ints,List.map_cons,List.map_nil] at c8 c9;have cO2:=cO ⟨2,w,c⟩;have cO3:=cO ⟨3,w,c⟩;have cO4:=cO ⟨4,0,c⟩;obtain ⟨ca,hca⟩:=aH (fj ⟨2,w,c⟩ s.aW.bs);obtain ⟨ow,how⟩:=aH (fj ⟨3,w,c⟩ s.aW.bs);obtain ⟨sk,hsk⟩:=aH (fj ⟨4,0,c⟩ s.aW.bs);obtain ⟨X,hXd⟩:=aH (FZ s w c gain);obtain ⟨F,hFd⟩:=aH (SQ s w c gain);simp only [<- hca,<- hXd,<- hFd] at c8 c9 hX hF hE;rw [<- hca] at cO2;rw [<- how] at cO3;rw [<- hsk] at cO4;simp only [<- hXd,<- hFd,<- how,<- hsk];clear eX eF hcash hcr hca how hsk hXd hFd cO hg hsn;simp only [go_sem,seval];(with_reducible and_intros)<;>first|exact .dq|omega|skip
 refine aa.pure (cA 2 w) ?_;simp only [go_sem,seval];(with_reducible and_intros)<;>first|exact .dq|omega|skip
 refine aa.pure cO2 ?_;simp only [go_sem,seval];(with_reducible and_intros)<;>first|exact .dq|omega|skip
 refine aa.pure cSold ?_;simp only [go_sem,seval];(with_reducible and_intros)<;>first|exact .dq|omega|skip
 refine aa.gen [] [] true (by simp) ?_;simp only [go_sem,seval];refine aU.intro c8 ?_;cases k1:bL (vh s w c)
 ·rw [k1,Bool.false_and,Bool.false_and,if_neg (by simp)] at hE;rw [hE];simp only [go_sem,seval,k1]<;>simp [ints]
 cases k2:bL X
 ·rw [k1,k2,Bool.and_false,Bool.false_and,if_neg (by simp)] at hE;rw [hE];simp only [go_sem,seval,k1,k2]<;>simp [ints]
 have hXr:=cg.1 k2;have hX:=hX k2;have c9:=c9 k2;rw [hX];rw [k1,k2,Bool.and_self,Bool.true_and] at hE;simp only [go_sem,seval,k1,k2];(with_reducible and_intros)<;>first|exact .dq|omega|skip
 refine aa.gen [] [] true (by simp) ?_;simp only [go_sem,seval];refine aU.intro c9 ?_;simp only [go_sem,seval];(with_reducible and_intros)<;>first|exact .dq|omega|skip
 refine aa.pure c5 ?_;simp only [go_sem,seval];(with_reducible and_intros)<;>first|exact .dq|omega|skip
 refine aa.pure c6 ?_;simp only [go_sem,seval];(with_reducible and_intros)<;>first|exact .dq|omega|skip
 refine aa.pure c5 ?_;simp only [go_sem,seval];(with_reducible and_intros)<;>first|exact .dq|omega|skip
 refine aa.pure c7 ?_;cases k3:bL F
 ·rw [k3,Bool.false_and,if_neg (by simp)] at hE;rw [hE];simp only [go_sem,seval,k3]<;>simp [ints]
 have hF:=hF k3;cases k4:iz s.aW c (dH s w)==0
 ·rw [k3,k4,Bool.false_and,Bool.and_false,if_neg (by simp)] at hE;rw [hE];simp only [go_sem,seval,k3,bne,k4]<;>simp [ints]
 cases k5:j0 s.aj (dH s w)==0
 ·rw [k3,k4,k5,Bool.and_false,Bool.and_false,if_neg (by simp)] at hE;rw [hE];simp only [go_sem,seval,k3,bne,k4,k5]<;>simp [ints]
 rw [k3,k4,k5,Bool.and_self,Bool.and_self,if_pos rfl] at hE;have hw:IntKind.wrap .i64 (0-X) = -X:=by rw [bn (by omega) (by omega)];omega
 rw [hE,hF];simp only [go_sem,seval,k3,bne,k4,k5,hw];(with_reducible and_intros)<;>first|exact .dq|omega|skip
 refine aa.pure (cA 3 w) ?_;simp only [go_sem,seval];(with_reducible and_intros)<;>first|exact .dq|omega|skip
 refine aa.pure cO3 ?_;simp only [go_sem,seval];(with_reducible and_intros)<;>first|exact .dq|omega|skip
 refine aa.pure (cA 4 0) ?_;simp only [go_sem,seval];(with_reducible and_intros)<;>first|exact .dq|omega|skip
 refine aa.pure cO4 ?_;simp only [go_sem,seval]<;>simp [ints]
theorem Lc (s:af) (w c gain:Int) (hs:s.small) (hr:s.cU) (hm:s.aj.ms.length < 2 ^ 27):Abs.Spec Tryz.prog 205 [] [.agg s.cells,.int .i64 w,.int .i64 c,.int .i64 gain] [] (.bI [.int .i64 (De s w c gain),.sl 1 (ints (tq s w c gain)),.int .i64 (pK s w c gain)]):=by
 refine Spec.frozen (MX s w c gain hs hr hm) [0] rfl ?_;intro r;rcases r with _ | r<;>rfl
def VE (s:af) (w c gain:Int) (f:eY):List aY:=
 bS ⟨1,0,c⟩ ⟨2,w,c⟩ (tV s w c)++bS ⟨5,0,c⟩ ⟨2,w,c⟩ gain++bS ⟨6,0,c⟩ ⟨2,w,c⟩ f.iy++bS ⟨2,w,c⟩ ⟨6,0,c⟩ f.c0++bS ⟨3,w,c⟩ ⟨6,0,c⟩ f.c1++bS ⟨4,0,c⟩ ⟨6,0,c⟩ f.c2
def Oa (s:af) (w c gain:Int) (f:eY) (x y:Int):List aY:=
 VE s w c gain f++CW s.aW c f.c3 (dH s w)++qa s.aj c f.c4 (dH s w)++bS ⟨2,w,c⟩ ⟨1,0,c⟩ x++bS ⟨3,w,c⟩ ⟨1,0,c⟩ y
def lJ (s:af) (w c gain:Int) (f:eY) (a b:Int):List aY × Int × Int:=
 if NR s.aW c f.c3 (dH s w)=0 then (if AP s.aj c f.c4 (dH s w)=0 then (if bL (a-f.c0+(b-f.c1)) then (ji (Oa s w c gain f (a-f.c0) (b-f.c1)),a-f.c0+(b-f.c1),nL (Oa s w c gain f (a-f.c0) (b-f.c1))) else ([],0,1)) else ([],0,AP s.aj c f.c4 (dH s w))) else ([],0,NR s.aW c f.c3 (dH s w))
theorem vK (l:List aY):(ji l).length<=306:=by
 unfold ji;split
 ·exact Nat.le_trans (Jq _ _) tY
 ·simp
theorem IP (k c n all:Int) (ws gs:List Int):(uv k c n all ws gs).length<=306:=by
 unfold uv;split
 ·exact vK _
 ·simp
theorem S7 (l:bz) (c n:Int) (ws:List Int):(CW l c n ws).length<=306:=by
 unfold CW;split
 ·exact IP _ _ _ _ _ _
 ·simp
theorem Mr (r:aq) (c n:Int) (ws:List Int):(qa r c n ws).length<=306:=by
 unfold qa;split
 ·exact IP _ _ _ _ _ _
 ·simp
theorem Fl (s:af) (w c gain:Int) (f:eY) (caps:List Int) (a b:Int) (rest:List Int) (hcaps:caps=a :: b :: rest) (hrl:rest.length < 2 ^ 20) (hs:s.small) (hr:s.cU) (hm:s.aj.ms.length < 2 ^ 27) (h1:s.aj.okB=true) (h2:gj s.ps=true) (hx:dj (a-f.c0)) (hy:dj (b-f.c1)) :
  Abs.Spec Tryz.prog 207 [] [.agg s.cells,.int .i64 w,.int .i64 c,.int .i64 gain,.agg f.cells,.sl 1 (ints caps)] [] (.bI [.sl 4 ((lJ s w c gain f a b).1.map aY.cells),.int .i64 (lJ s w c gain f a b).2.1,.int .i64 (lJ s w c gain f a b).2.2]):=by
 have cA:=fun k w=>C6 k w c
 have cM:=fun x y n=>iM x y n
 have cSold:=Bz s w c hs h1 h2;have c5:=qX s w hs;have hol:=Ds s w;have c6:=Kg s.aW c f.c3 (dH s w) hs.aW hr.bs (by omega);have c7:=EJ s.aj c f.c4 (dH s w) hs.aj hr.ms (by omega);have c8:=cE [a-f.c0,b-f.c1] (by intro n hn;simp only [List.mem_cons,List.not_mem_nil,or_false] at hn;rcases hn with rfl | rfl<;>assumption) (by simp);have eX:az [a-f.c0,b-f.c1]=a-f.c0+(b-f.c1):=by simp [az]
 have hw1:IntKind.wrap .i64 (a-f.c0)=a-f.c0:=bn hx.1 (by have:=hx.2;omega);have hw2:IntKind.wrap .i64 (b-f.c1)=b-f.c1:=bn hy.1 (by have:=hy.2;omega);have hlv:=S7 s.aW c f.c3 (dH s w);have hla:=Mr s.aj c f.c4 (dH s w);have cJ:=mP (Oa s w c gain f (a-f.c0) (b-f.c1)) (by simp [Oa,VE,bS];omega);obtain ⟨R,hR⟩:=aH (lJ s w c gain f a b);rw [<- hR];simp only [lJ] at hR;obtain ⟨G,hG⟩:=aH (Oa s w c gain f (a-f.c0) (b-f.c1));rw [<- hG] at cJ hR;simp only [Oa,VE] at hG;obtain ⟨x,hxd⟩:=aH (a-f.c0);obtain ⟨y,hyd⟩:=aH (b-f.c1);rw [<- hxd,<- hyd] at eX c8 hG hR;have hw1:=hw1.trans hxd.symm;have hw2:=hw2.trans hyd.symm;rw [eX] at c8;have hadd:bL (x+y)=true->addN [x,y]=x+y:=fun h=>by rw [Kf (by rw [eX];exact h),eX]
 have hmv:∀ p q n,(bS p q n).length=2:=fun _ _ _=>rfl
 obtain ⟨e1,he1⟩:=aH (NR s.aW c f.c3 (dH s w));obtain ⟨e2,he2⟩:=aH (AP s.aj c f.c4 (dH s w));obtain ⟨V,hV⟩:=aH (CW s.aW c f.c3 (dH s w));obtain ⟨U,hU⟩:=aH (qa s.aj c f.c4 (dH s w));rw [<- hV] at c6 hG hlv;rw [<- hU] at c7 hG hla;rw [<- he1] at c6;rw [<- he2] at c7;rw [<- he1,<- he2] at hR;have m1:=cM ⟨1,0,c⟩ ⟨2,w,c⟩ (tV s w c);have m2:=cM ⟨5,0,c⟩ ⟨2,w,c⟩ gain;have m3:=cM ⟨6,0,c⟩ ⟨2,w,c⟩ f.iy;have m4:=cM ⟨2,w,c⟩ ⟨6,0,c⟩ f.c0;have m5:=cM ⟨3,w,c⟩ ⟨6,0,c⟩ f.c1;have m6:=cM ⟨4,0,c⟩ ⟨6,0,c⟩ f.c2;have m7:=cM ⟨2,w,c⟩ ⟨1,0,c⟩ x;have m8:=cM ⟨3,w,c⟩ ⟨1,0,c⟩ y;obtain ⟨A1,hA1⟩:∃ A,A=bS ⟨1,0,c⟩ ⟨2,w,c⟩ (tV s w c):=⟨_,rfl⟩
 obtain ⟨A2,hA2⟩:∃ A,A=bS ⟨5,0,c⟩ ⟨2,w,c⟩ gain:=⟨_,rfl⟩
 obtain ⟨A3,hA3⟩:∃ A,A=bS ⟨6,0,c⟩ ⟨2,w,c⟩ f.iy:=⟨_,rfl⟩
 obtain ⟨A4,hA4⟩:∃ A,A=bS ⟨2,w,c⟩ ⟨6,0,c⟩ f.c0:=⟨_,rfl⟩
 obtain ⟨A5,hA5⟩:∃ A,A=bS ⟨3,w,c⟩ ⟨6,0,c⟩ f.c1:=⟨_,rfl⟩
 obtain ⟨A6,hA6⟩:∃ A,A=bS ⟨4,0,c⟩ ⟨6,0,c⟩ f.c2:=⟨_,rfl⟩
 obtain ⟨A7,hA7⟩:∃ A,A=bS ⟨2,w,c⟩ ⟨1,0,c⟩ x:=⟨_,rfl⟩
 obtain ⟨A8,hA8⟩:∃ A,A=bS ⟨3,w,c⟩ ⟨1,0,c⟩ y:=⟨_,rfl⟩
 have z1:A1.length=2:=by rw [hA1];rfl
 have z2:A2.length=2:=by rw [hA2];rfl
 have z3:A3.length=2:=by rw [hA3];rfl
 have z4:A4.length=2:=by rw [hA4];rfl
 have z5:A5.length=2:=by rw [hA5];rfl
 have z6:A6.length=2:=by rw [hA6];rfl
 have z7:A7.length=2:=by rw [hA7];rfl
 have z8:A8.length=2:=by rw [hA8];rfl
 rw [<- hA1,<- hA2,<- hA3,<- hA4,<- hA5,<- hA6,<- hA7,<- hA8] at hG;rw [<- hA1] at m1;rw [<- hA2] at m2;rw [<- hA3] at m3;rw [<- hA4] at m4;rw [<- hA5] at m5;rw [<- hA6] at m6;rw [<- hA7] at m7;rw [<- hA8] at m8;have hmap:G.map aY.cells=A1.map aY.cells++A2.map aY.cells++A3.map aY.cells++A4.map aY.cells++A5.map aY.cells++A6.map aY.cells++V.map aY.cells++U.map aY.cells++A7.map aY.cells++A8.map aY.cells:=by rw [hG];simp only [List.map_append]
 rw [hmap] at cJ;simp only [aD.cells] at m1 m2 m3 m4 m5 m6 m7 m8;simp only [bz.cells] at c6;simp only [aq.cells] at c7;simp only [af.cells] at c5 cSold |-;simp only [eY.cells];simp only [ints,List.map_cons,List.map_nil] at c8;rw [hcaps];have hcl:(ints (a :: b :: rest)).length=rest.length+2:=by rw [av];rfl
 have hca:=ints_at (a :: b :: rest) (i:=0) (by simp);have hcb:=ints_at (a :: b :: rest) (i:=1) (by simp);simp only [List.getElem_cons_zero,List.getElem_cons_succ] at hca hcb;have hp0:(0:Int) < ((rest.length+2:Nat):Int):=by omega
 have hp1:(1:Int) < ((rest.length+2:Nat):Int):=by omega
 obtain ⟨cp,hcp⟩:=aH (ints (a :: b :: rest));rw [<- hcp] at hcl hca hcb |-;clear cM hA1 hA2 hA3 hA4 hA5 hA6 hA7 hA8 hV hU he1 he2 hxd hyd hcp hcaps hG hmap hol hmv;refine bu 171 6 [.tmp 12,.tmp 13,.tmp 14] mixed Tryz.func207 ?_;simp only [go_sem,seval];(with_reducible and_intros)<;>first|exact .dq|omega|skip
 refine aa.pure cSold ?_;simp only [go_sem,seval];(with_reducible and_intros)<;>first|exact .dq|omega|skip
 refine aa.pure (cA 2 w) ?_;simp only [go_sem,seval];(with_reducible and_intros)<;>first|exact .dq|omega|skip
 refine aa.pure (cA 1 0) ?_;simp only [go_sem,seval];(with_reducible and_intros)<;>first|exact .dq|omega|skip
 refine aa.pure (cA 6 0) ?_;simp only [go_sem,seval];(with_reducible and_intros)<;>first|exact .dq|omega|skip
 refine aa.pure (cA 3 w) ?_;simp only [go_sem,seval];(with_reducible and_intros)<;>first|exact .dq|omega|skip
 refine aa.pure m1 ?_;simp only [go_sem,seval,aJ,z1];(with_reducible and_intros)<;>first|exact .dq|omega|skip
 refine aa.pure (cA 5 0) ?_;simp only [go_sem,seval];(with_reducible and_intros)<;>first|exact .dq|omega|skip
 refine aa.pure m2 ?_;simp only [go_sem,seval,aJ,List.length_append,z1,z2];(with_reducible and_intros)<;>first|exact .dq|omega|skip
 refine aa.pure m3 ?_;simp only [go_sem,seval,aJ,List.length_append,z1,z2,z3];(with_reducible and_intros)<;>first|exact .dq|omega|skip
 refine aa.pure m4 ?_;simp only [go_sem,seval,aJ,List.length_append,z1,z2,z3,z4];(with_reducible and_intros)<;>first|exact .dq|omega|skip
 refine aa.pure m5 ?_;simp only [go_sem,seval,aJ,List.length_append,z1,z2,z3,z4,z5];(with_reducible and_intros)<;>first|exact .dq|omega|skip
 refine aa.pure (cA 4 0) ?_;simp only [go_sem,seval];(with_reducible and_intros)<;>first|exact .dq|omega|skip
 refine aa.pure m6 ?_;simp only [go_sem,seval,aJ,List.length_append,z1,z2,z3,z4,z5,z6];(with_reducible and_intros)<;>first|exact .dq|omega|skip
 refine aa.pure c5 ?_;simp only [go_sem,seval];(with_reducible and_intros)<;>first|exact .dq|omega|skip
 refine aa.pure c6 ?_
 by_cases k1:e1=0
 case neg =>
  have d:(e1==0)=false:=by simpa using k1
  rw [if_neg k1] at hR;rw [hR];simp only [go_sem,seval,bne,d]<;>simp
 rw [if_pos k1] at hR;rw [k1];simp only [go_sem,seval];(with_reducible and_intros)<;>first|exact .dq|omega|skip
 refine aa.pure c5 ?_;simp only [go_sem,seval];(with_reducible and_intros)<;>first|exact .dq|omega|skip
 refine aa.pure c7 ?_
 by_cases k2:e2=0
 case neg =>
  have d:(e2==0)=false:=by simpa using k2
  rw [if_neg k2] at hR;rw [hR];simp only [go_sem,seval,bne,d]<;>simp
 rw [if_pos k2] at hR;rw [k2];simp only [go_sem,seval,aJ,List.length_append,z1,z2,z3,z4,z5,z6,hcl,hca,hcb,hw1,hw2];(with_reducible and_intros)<;>first|exact .dq|omega|skip
 refine aa.pure m7 ?_;simp only [go_sem,seval,aJ,List.length_append,z1,z2,z3,z4,z5,z6,z7];(with_reducible and_intros)<;>first|exact .dq|omega|skip
 refine aa.pure m8 ?_;simp only [go_sem,seval,aJ,List.length_append,z1,z2,z3,z4,z5,z6,z7,z8];(with_reducible and_intros)<;>first|exact .dq|omega|skip
 refine aa.gen [] [] true (by simp) ?_;simp only [go_sem,seval];refine aU.intro c8 ?_;cases k3:bL (x+y)
 ·rw [k3,if_neg (by simp)] at hR;rw [hR];simp only [go_sem,seval,k3]<;>simp
 rw [k3,if_pos rfl] at hR;rw [hadd k3,hR];simp only [go_sem,seval,k3];(with_reducible and_intros)<;>first|exact .dq|omega|skip
 refine aa.gen [2464] [] false (by simp) ?_;simp only [go_sem,seval];refine aU.intro cJ ?_;simp only [go_sem,seval]
 all_goals (with_reducible and_intros)<;>first|exact .dq|omega|skip
end Go.Proofs.YtnkobepdbkmedaaGreatDoor
