/- The reference's legs of nets; greedy shares, falls, and what follows. No theorem of a claim. -/
import Derived.Test.YtnkobepdbkmedaaGreatKF
set_option linter.unusedSimpArgs false
set_option linter.unusedVariables false
set_option maxHeartbeats 4000000
set_option maxRecDepth 16000
namespace Go.Proofs.YtnkobepdbkmedaaGreat
open Go.Abs
theorem MO (l:List aN):∀ (n:Nat) (f:Bool) (last:aN) (out:List aN),(∀ d∈out,bP d.bW=true)->∀ d∈(Au l n f last out).1,bP d.bW=true
 | 0,_,_,out,h=>h
 | n+1,f,last,out,h=>by
  simp only [Au];split
  ·split
   ·refine MO l n _ _ _ ?_;intro d hd;rcases List.mem_append.1 hd with hd | hd
    ·exact h d hd
    ·unfold Iz at hd;split at hd
     ·cases hd
     ·obtain rfl:=List.mem_singleton.1 hd;exact xP _ _ _
   ·intro d hd;cases hd
  ·exact h
theorem J2 (l:List aN):∀ (n:Nat) (f:Bool) (last:aN) (out:List aN),(Au l n f last out).1.length<=out.length+n
 | 0,_,_,out=>Nat.le_refl _
 | n+1,f,last,out=>by
  simp only [Au];split
  ·split
   ·refine Nat.le_trans (J2 l n _ _ _) ?_;have:∀ d,(Iz l d).length<=1:=fun d=>by unfold Iz;split<;>simp
    rw [List.length_append];have:=this (gV f last l (false,.zero)).2;omega
   ·simp
  ·simp
theorem Gc (l:List aN):(∀ d∈(ju l).1,bP d.bW=true)/\(ju l).1.length<=l.length+1:=by
 unfold ju;split
 ·exact ⟨MO l _ _ _ _ (by simp),Nat.le_trans (J2 l _ _ _ _) (by simp)⟩
 ·exact ⟨by simp,by simp⟩
def n6 (l:List aN):List aW:=l.flatMap fun d=>[⟨2,d.who,d.cur,d.bW⟩,⟨5,0,d.cur,-d.bW⟩]
def zh (l:List aN):Bool:=l.all fun d=>aH.right ⟨2,d.who,d.cur⟩
def qD (l:List aN):Int:=if zh l then (if (ju l).2=0 then mP (n6 (ju l).1) else (ju l).2) else 3
def nM (l:List aN):List aW:=if qD l=0 then iF (n6 (ju l).1) else []
theorem EV (l:List aN):(n6 l).length<=2*l.length:=fm (fun d=>by simp) l
theorem zB (l:List aN) (hl:l.length < 2 ^ 27):Abs.Spec Tryz.prog 137 [] [.sl 3 (l.map aN.cells)] [] (.bI [.sl 4 ((nM l).map aW.cells),.int .i64 (qD l)]):=by
 have hN:=zn l (by omega);obtain ⟨hno,hnl⟩:=Gc l;have hJ:=mg (n6 (ju l).1) (by have:=EV (ju l).1;omega)
 have e0:nM l=if zh l&&(ju l).2==0 then iF (n6 (ju l).1) else []:=by
  by_cases hc:zh l=true
  ·by_cases h:(ju l).2=0
   ·by_cases h2:mP (n6 (ju l).1)=0
    ·simp [nM,qD,hc,h,h2]
    ·simp [nM,qD,hc,h,h2,iF]
   ·simp [nM,qD,hc,h]
  ·simp [nM,qD,hc]
 simp only [qD];rw [e0];clear e0;obtain ⟨m,hm⟩:=aL ((ju l).1);obtain ⟨e,he⟩:=aL ((ju l).2);rw [<- hm] at hN hno hnl hJ;rw [<- he] at hN;rw [<- hm,<- he];clear hm he;refine bg 79 1 [.tmp 2,.tmp 3] mixed Tryz.func137 ?_;simp only [go_sem,seval,aG];refine aC.walk (S:=Unit) l.length [0] [] (fun i _=>[(4,.int .i64 i)]) (fun _ _=>[]) (fun i _=>zh (l.drop i)=zh l) () rfl ?_ ?_ ?_
 ·simp only [go_sem,seval]<;>simp
 ·intro i _ hi hdi hwi hI;have hm:=aD (c:=aN.cells) l hi;have hli:(i:Int) < (l.length:Int):=by omega
  obtain ⟨x,hx⟩:=aL (l[i]);have hR:=fI ⟨2,x.who,x.cur⟩;rw [dy hi,<- hx] at hI;rw [<- hx] at hm;have hc:zh (x :: l.drop (i+1))=(aH.right ⟨2,x.who,x.cur⟩&&zh (l.drop (i+1))):=rfl;rw [hc] at hI;simp only [aN.cells] at hm;simp only [aH.cells] at hR;clear hN hJ;simp only [go_sem,seval,aG,hdi,hm];(with_reducible and_intros)<;>first|exact .dq|omega|skip
  refine aa.pure hR ?_;cases q:aH.right ⟨2,x.who,x.cur⟩
  ·rw [q,Bool.false_and] at hI;rw [<- hI];simp only [go_sem,seval]<;>simp
  rw [q,Bool.true_and] at hI;simp only [go_sem,seval,hwi];refine ah.step () hi hI ?_;simp only [go_sem,seval]
 intro _ hdx hI;rw [List.drop_length] at hI;rw [<- hI,show zh []=true from rfl];clear hI;simp only [go_sem,seval,aG,hdx];(with_reducible and_intros)<;>first|exact .dq|omega|skip
 refine aa.pure hN ?_
 by_cases q:e=0
 case neg =>
  have d:(e==0)=false:=by simpa using q
  simp only [go_sem,seval,bne,d,if_neg q]
  all_goals simp
 rw [q,show (if ((0:Int)==0)=true then iF (n6 m) else [])=iF (n6 m) from rfl,if_pos rfl];simp only [go_sem,seval,aG];(with_reducible and_intros)<;>first|exact .dq|omega|skip
 clear hN hdx;refine aC.walk (S:=Unit) m.length [5] [] (fun i _=>[(8,.int .i64 i),(7,.ref 1200)]) (fun i _=>[(1200,.own 4 ((n6 (m.take i)).map aW.cells))]) (fun _ _=>True) () trivial ?_ ?_ ?_
 ·simp only [go_sem,seval]<;>simp [n6]
 ·intro i _ hi hdi hwi _;have hm:=aD (c:=aN.cells) m hi;have hli:(i:Int) < (m.length:Int):=by omega
  have hs:n6 (m.take (i+1))=n6 (m.take i)++_:=gl _ hi;have hnl:=EV (m.take i);have hlt:(m.take i).length=i:=by simp;omega
  have hin:=cm.1 (hno m[i] (List.getElem_mem hi));obtain ⟨L,hL⟩:=aL (n6 (m.take i));obtain ⟨x,hx⟩:=aL (m[i]);rw [<- hL] at hs hnl |-;rw [<- hx] at hs hm hin;have hw:IntKind.wrap .i64 (0-x.bW) = -x.bW:=by rw [bz (by omega) (by omega)];omega
  simp only [aN.cells] at hm;clear hJ;simp only [go_sem,seval,aG,hdi,hm,hw,hwi];(with_reducible and_intros)<;>first|exact .dq|omega|skip
  refine ah.step () hi trivial ?_;simp only [go_sem,seval,hs]<;>simp
 ·intro _ hdx _;simp only [go_sem,seval,aG,hdx,List.take_length];(with_reducible and_intros)<;>first|exact .dq|omega|skip
  refine aa.gen [1200] [] false (by simp) ?_;simp only [go_sem,seval];refine aY.intro hJ ?_;simp only [go_sem,seval]
theorem uO (l:List Int) (hl:l.length < 2 ^ 60):Abs.Spec Tryz.prog 226 [] [.sl 1 (ints l)] [] (.bool (right l)):=by
 refine bg 16 1 [.tmp 2] mixed Tryz.func226 ?_;simp only [go_sem,seval,ay];refine aC.walk (S:=Unit) l.length [0] [] (fun i _=>[(3,.int .i64 i)]) (fun _ _=>[]) (fun i _=>right (l.drop i)=right l) () rfl ?_ ?_ ?_
 ·simp only [go_sem,seval]<;>simp
 ·intro i _ hi hdi hwi hI;have hm:=ints_at l hi;have hli:(i:Int) < (l.length:Int):=by omega
  obtain ⟨x,hx⟩:=aL (l[i]);have hN:=cZ x;rw [dy hi,<- hx] at hI;rw [<- hx] at hm;have hc:right (x :: l.drop (i+1))=(bP x&&right (l.drop (i+1))):=rfl;rw [hc] at hI;simp only [go_sem,seval,ay,hdi,hm];(with_reducible and_intros)<;>first|exact .dq|omega|skip
  refine aa.pure hN ?_;cases q:bP x
  ·rw [q,Bool.false_and] at hI;rw [<- hI];simp only [go_sem,seval]
  rw [q,Bool.true_and] at hI;simp only [go_sem,seval,hwi];refine ah.step () hi hI ?_;simp only [go_sem,seval]
 ·intro _ hdx hI;rw [List.drop_length] at hI;rw [<- hI];simp only [go_sem,seval,ay,hdx];rfl
def vQ (l:List Int):Bool:=l.all fun x=>!decide (x < 0)
def xB:Int->List Int->List Int
 | _,[]=>[]
 | t,c :: r=>min t c :: xB (t-min t c) r
def Gj:Int->List Int->Int
 | t,[]=>t
 | t,c :: r=>Gj (t-min t c) r
def rZ (t:Int) (l:List Int):Int:=if (!decide (t < 0)&&bP t)&&right l then (if vQ l then (if 1024 < l.length then 5 else 0) else 3) else 3
theorem DM (t:Int) (l:List Int) (hl:l.length < 2 ^ 30):Abs.Spec Tryz.prog 204 [] [.int .i64 t,.sl 1 (ints l)] [.own 1 (ints (if rZ t l=0 then xB t l else []))] (.bI [.ref 0,.int .i64 (if rZ t l=0 then Gj t l else 0),.int .i64 (rZ t l)]):=by
 have c1:=cZ t;have c2:=uO l (by omega);refine bg 58 2 [.tmp 4,.tmp 5,.tmp 6] mixed Tryz.func204 ?_
 by_cases q0:t < 0
 ·have d:decide (t < 0)=true:=decide_eq_true q0;have e:rZ t l=3:=by simp [rZ,q0]
  rw [e];simp only [go_sem,seval,d]<;>simp [ints]
 have d0:decide (t < 0)=false:=decide_eq_false q0;simp only [go_sem,seval,d0];refine aa.pure c1 ?_;cases q1:bP t
 ·have e:rZ t l=3:=by simp [rZ,q1]
  rw [e];simp only [go_sem,seval]<;>simp [ints]
 simp only [go_sem,seval];refine aa.pure c2 ?_;cases q2:right l
 ·have e:rZ t l=3:=by simp [rZ,q2]
  rw [e];simp only [go_sem,seval]<;>simp [ints]
 have e:rZ t l=if vQ l then (if 1024 < l.length then 5 else 0) else 3:=by simp only [rZ,d0,q1,q2];rfl
 rw [e];clear e c1 c2;have hin:=fun x hx=>cm.1 (List.all_eq_true.1 q2 x hx)
 have htin:=cm.1 q1;simp only [go_sem,seval,ay];refine aC.walk (S:=Unit) l.length [0,1] [] (fun i _=>[(7,.int .i64 i)]) (fun _ _=>[]) (fun i _=>vQ (l.drop i)=vQ l) () rfl ?_ ?_ ?_
 ·simp only [go_sem,seval]<;>simp
 ·intro i _ hi hdi hwi hI;have hm:=ints_at l hi;have hli:(i:Int) < (l.length:Int):=by omega
  obtain ⟨x,hx⟩:=aL (l[i]);rw [dy hi,<- hx] at hI;rw [<- hx] at hm;have hc:vQ (x :: l.drop (i+1))=(!decide (x < 0)&&vQ (l.drop (i+1))):=rfl;rw [hc] at hI
  by_cases q:x < 0
  ·have d:decide (x < 0)=true:=decide_eq_true q;rw [d,Bool.not_true,Bool.false_and] at hI;rw [<- hI];simp only [go_sem,seval,ay,hdi,hm,d];(with_reducible and_intros)<;>first|exact .dq|omega|skip
   all_goals simp [ints]
  ·have d:decide (x < 0)=false:=decide_eq_false q;rw [d,Bool.not_false,Bool.true_and] at hI;simp only [go_sem,seval,ay,hdi,hm,d,hwi];(with_reducible and_intros)<;>first|exact .dq|omega|skip
   refine ah.step () hi hI ?_;simp only [go_sem,seval]
 intro _ hdx hI;rw [List.drop_length] at hI;have hI:vQ l=true:=hI.symm
 have hnn:∀ x∈l,0<=x:=fun x hx=>by
  have:=List.all_eq_true.1 hI x hx;simp only [Bool.not_eq_true',decide_eq_false_iff_not] at this;omega
 by_cases q4:1024 < l.length
 ·have d:decide (1024 < (l.length:Int))=true:=decide_eq_true (by omega);simp only [go_sem,seval,ay,hdx,hI,if_pos q4,d];(with_reducible and_intros)<;>first|exact .dq|omega|skip
  all_goals simp [ints]
 have d4:decide (1024 < (l.length:Int))=false:=decide_eq_false (by omega);simp only [go_sem,seval,ay,hdx,hI,if_neg q4,d4];(with_reducible and_intros)<;>first|exact .dq|omega|skip
 clear hdx hI;refine aC.walk (S:=Int × List Int) l.length [1] [] (fun i s=>[(9,.int .i64 i),(0,.int .i64 s.1),(8,.ref 848)]) (fun i s=>[(848,.own 1 (ints s.2))]) (fun i s=>(s.2++xB s.1 (l.drop i)=xB t l/\Gj s.1 (l.drop i)=Gj t l)/\(0<=s.1/\s.1<=t)/\s.2.length=i) (t,[]) ⟨⟨rfl,rfl⟩,by omega,rfl⟩ ?_ ?_ ?_
 ·simp only [go_sem,seval]<;>simp [ints]
 ·rintro i ⟨u,L⟩ hi hdi hwi ⟨⟨h1,h2⟩,h3,h4⟩
  dsimp only at h1 h2 h3 h4;have hm:=ints_at l hi;have hli:(i:Int) < (l.length:Int):=by omega
  have hx1:=hin _ (List.getElem_mem hi);have hx2:=hnn _ (List.getElem_mem hi);obtain ⟨x,hx⟩:=aL (l[i]);rw [dy hi,<- hx] at h1 h2;rw [<- hx] at hm hx1 hx2;simp only [xB,Gj] at h1 h2;have hw:IntKind.wrap .i64 (u-min u x)=u-min u x:=bz (by omega) (by omega);simp only [go_sem,seval,ay,hdi,hm,hw,hwi];(with_reducible and_intros)<;>first|exact .dq|omega|skip
  refine ah.step (u-min u x,L++[min u x]) hi ⟨⟨by rw [List.append_assoc];exact h1,h2⟩,by omega,by simp [h4]⟩ ?_;simp only [go_sem,seval]<;>simp [ints]
 ·rintro ⟨u,L⟩ hdx ⟨⟨h1,h2⟩,h3,h4⟩
  dsimp only at h1 h2;rw [List.drop_length] at h1 h2;simp only [xB,Gj,List.append_nil] at h1 h2;simp only [go_sem,seval,ay,hdx,if_true,<- h1,<- h2]
  all_goals simp
theorem fC (a b c:Int):Abs.Spec Tryz.prog 203 [] [.int .i64 a,.int .i64 b,.int .i64 c] [] (.bool (within a b c)):=by
 refine bg 15 3 [.tmp 6] mixed Tryz.func203 ?_;simp only [go_sem,seval]
 repeat' with_reducible first|apply And.intro|exact .dq|refine aa.pure (by assumption) ?_|refine .aM (fun h=>?_) fun h=>?_|refine .aK (fun h=>?_) fun h=>?_|refine .aO (fun h=>?_) fun h=>?_|refine .split (fun h=>?_) fun h=>?_|refine .id ?_|refine ah.next (by omega) ?_ ?_|exact trivial|simp only [*,go_sem,seval]
 all_goals (simp_all [within];try omega)
structure dP where
 src:Int
 aV:Int
 aR:Int
deriving DecidableEq
@[reducible] def dP.cells (x:dP):List D:=[.int .i64 x.src,.int .i64 x.aV,.int .i64 x.aR]
def ahead (long:Bool) (a b:bu):Bool:=if a.aR==b.aR then decide (a.src < b.src) else decide (b.aR < a.aR)==long
theorem Ef (long:Bool) (a b:bu):Abs.Spec Tryz.prog 233 [] [.bool long,.agg a.cells,.agg b.cells] [] (.bool (ahead long a b)):=by
 simp only [bu.cells];refine bg 24 3 [.tmp 6] mixed Tryz.func233 ?_;cases q:a.aR==b.aR
 ·simp only [go_sem,seval,bne,q,ahead,fY,if_false]
  all_goals (with_reducible and_intros)<;>first|exact .dq|omega|skip
 ·simp only [go_sem,seval,bne,q,ahead,if_true]
  all_goals (with_reducible and_intros)<;>first|exact .dq|omega|skip
def kpos (long:Bool) (x:bu) (out:List bu):Nat->Nat
 | 0=>0
 | k+1=>if ahead long x (out.getD k ⟨0,0,0,0,0⟩) then kpos long x out k else k+1
theorem Mk (long:Bool) (x:bu) (out:List bu):∀ k,kpos long x out k<=k
 | 0=>Nat.le_refl _
 | k+1=>by
  simp only [kpos];split
  ·have:=Mk long x out k;omega
  ·exact Nat.le_refl _
def JY (long:Bool) (x:bu) (out:List bu):List bu:=out.take (kpos long x out out.length)++x :: out.drop (kpos long x out out.length)
def BM (long:Bool):List bu->List bu->List bu
 | out,[]=>out
 | out,x :: r=>BM long (JY long x out) r
def Al (long:Bool) (l:List bu):List bu:=BM long [] l
theorem Pj (long:Bool) (x:bu) (out:List bu):(JY long x out).length=out.length+1:=by
 have:=Mk long x out out.length;simp only [JY,List.length_append,List.length_cons,List.length_take,List.length_drop];omega
theorem Cl (long:Bool):∀ (l out:List bu),(BM long out l).length=out.length+l.length
 | [],out=>rfl
 | x :: r,out=>by simp only [BM,Cl long r,Pj,List.length_cons];omega
def hole (x:bu) (out:List bu) (k:Nat):List bu:=(out++[x]).take (k+1)++out.drop k
theorem qn {x:bu} {out:List bu} {k:Nat} (h:k<=out.length):(hole x out k).length=out.length+1:=by
 simp only [hole,List.length_append,List.length_take,List.length_drop,List.length_cons,List.length_nil];omega
theorem Rk (x:bu) (out:List bu):hole x out out.length=out++[x]:=by
 rw [hole,List.take_of_length_le (by simp),List.drop_length,List.append_nil]
theorem Ch {x:bu} {out:List bu} {k:Nat} (h:k<=out.length) {j:Nat} (hj:j < out.length+1):(hole x out k)[j]'(by rw [qn h];exact hj)=if h1:j<=k then (out++[x])[j]'(by simp;omega) else out[j-1]'(by omega):=by
 simp only [hole];split
 ·rename_i h1;rw [List.getElem_append_left (by simp;omega),List.getElem_take]
 ·rename_i h1;rw [List.getElem_append_right (by simp;omega),List.getElem_drop];have:k+(j-((out++[x]).take (k+1)).length)=j-1:=by simp;omega
  simp only [this]
theorem Sg {x:bu} {out:List bu} {k:Nat} (h:k+1<=out.length):(hole x out (k+1))[k]'(by rw [qn h];omega)=out[k]'(by omega):=by
 rw [Ch h (by omega),dif_pos (by omega),List.getElem_append_left (by omega)]
theorem Pt {x:bu} {out:List bu} {k:Nat} (h:k+1<=out.length):(hole x out (k+1)).set (k+1) (out[k]'(by omega))=hole x out k:=by
 refine List.ext_getElem (by rw [List.length_set,qn h,qn (by omega)]) ?_;intro j h1 h2;have hj:j < out.length+1:=by rw [List.length_set,qn h] at h1;exact h1
 rw [List.getElem_set,Ch (k:=k) (by omega) hj,Ch h hj];split
 ·rename_i e;subst e;rw [dif_neg (by omega)];simp
 ·split
  ·rename_i e1 e2
   by_cases e3:j<=k
   ·rw [dif_pos e3]
   ·omega
  ·rename_i e1 e2;rw [dif_neg (by omega)]
theorem IJ {x:bu} {out:List bu} {k:Nat} (h:k<=out.length):(hole x out k).set k x=out.take k++x :: out.drop k:=by
 have hl:(out.take k).length=k:=by simp;omega
 have e:(out++[x]).take (k+1)=out.take k++[(out++[x])[k]'(by simp;omega)]:=by
  rw [List.take_succ_eq_append_getElem (by simp;omega),List.take_append_of_le_length h]
 rw [hole,e,List.append_assoc,List.set_append_right _ _ (by omega),hl,Nat.sub_self];rfl
theorem Gd (long:Bool) (l:List bu) (hl:l.length < 2 ^ 29):Abs.Spec Tryz.prog 229 [] [.bool long,.sl 5 (l.map bu.cells)] [.own 5 ((Al long l).map bu.cells)] (.ref 0):=by
 have hA:=fun a b=>Ef long a b
 refine bg 56 2 [.tmp 4] mixed Tryz.func229 ?_;simp only [go_sem,seval,aG];refine aC.walk (S:=List bu) l.length [0,1] [] (fun i _=>[(6,.int .i64 i),(5,.ref 96)]) (fun _ s=>[(96,.own 5 (s.map bu.cells))]) (fun i s=>BM long s (l.drop i)=Al long l/\s.length=i) [] ⟨rfl,rfl⟩ ?_ ?_ ?_
 ·simp only [go_sem,seval]<;>simp
 ·rintro i out hi hdi hwi ⟨hI,hol⟩
  have hm:=aD (c:=bu.cells) l hi;have hli:(i:Int) < (l.length:Int):=by omega
  obtain ⟨x,hx⟩:=aL (l[i]);rw [dy hi,<- hx] at hI;rw [<- hx] at hm;simp only [BM] at hI;simp only [bu.cells] at hm;simp only [go_sem,seval,aG,hdi,hm];(with_reducible and_intros)<;>first|exact .dq|omega|skip
  refine aC.PX (T:=Nat) [0,1,6] [] (fun k=>[(7,.int .i64 k),(5,.ref 96)]) (fun k=>[(96,.own 5 ((hole x out k).map bu.cells))]) (fun k=>k<=out.length/\kpos long x out k=kpos long x out out.length) (fun k=>k) out.length ⟨Nat.le_refl _,rfl⟩ ?_ ?_
  ·simp only [go_sem,seval,Rk]<;>simp
  rintro k ⟨hk,hK⟩
  have hhl:=qn (x:=x) hk;rcases Nat.eq_zero_or_pos k with rfl | hpos
  ·have hfin:=IJ (x:=x) hk;have hins:JY long x out=out.take 0++x :: out.drop 0:=by rw [JY,<- hK];rfl
   rw [hins,<- hfin] at hI;have hI2:BM long ((hole x out 0).set 0 x) (l.drop (i+1))=Al long l/\((hole x out 0).set 0 x).length=i+1:=⟨hI,by rw [List.length_set,hhl];omega⟩
   have hmz:=aD (c:=bu.cells) (hole x out 0) (i:=0) (by omega);simp only [bu.cells] at hmz;simp only [go_sem,seval];(with_reducible and_intros)<;>first|exact .dq|omega|skip
   refine fH.id ?_;simp only [go_sem,seval,hm,aG,hhl,hwi];(with_reducible and_intros)<;>first|exact .dq|omega|skip
   all_goals first
    | omega
    | (refine ah.step ((hole x out 0).set 0 x) hi hI2 ?_
       simp only [go_sem,seval,List.map_set,hmz])
  ·obtain ⟨j,rfl⟩:∃ j,k=j+1:=⟨k-1,by omega⟩
   have hj:j < (hole x out (j+1)).length:=by omega
   have hmj:=aD (c:=bu.cells) (hole x out (j+1)) hj;have hset:=Pt (x:=x) hk;rw [Sg hk] at hmj;have hgd:out.getD j ⟨0,0,0,0,0⟩=out[j]:=by simp [show j < out.length by omega]
   simp only [kpos,hgd] at hK;obtain ⟨y,hy⟩:=aL (out[j]'(by omega));rw [<- hy] at hmj hset hK;have hA:=hA x y;have hd0:decide (0 < ((j+1:Nat):Int))=true:=decide_eq_true (by omega);have hw1:IntKind.wrap .i64 (((j+1:Nat):Int)-1)=(j:Int):=by rw [bz (by omega) (by omega)];omega
   have hmz:=aD (c:=bu.cells) (hole x out (j+1)) (i:=j+1) (by omega);simp only [bu.cells] at hmj hA hmz;simp only [go_sem,seval,hd0,hm,aG,hhl,hw1,hmj];(with_reducible and_intros)<;>first|exact .dq|omega|skip
   refine aa.pure hA ?_;cases q:ahead long x y
   ·rw [q] at hK;have hfin:=IJ (x:=x) hk;have hins:JY long x out=out.take (j+1)++x :: out.drop (j+1):=by rw [JY,<- hK];rfl
    rw [hins,<- hfin] at hI;have hI2:BM long ((hole x out (j+1)).set (j+1) x) (l.drop (i+1))=Al long l/\((hole x out (j+1)).set (j+1) x).length=i+1:=⟨hI,by rw [List.length_set,hhl];omega⟩
    simp only [go_sem,seval,q];(with_reducible and_intros)<;>first|exact .dq|omega|skip
    refine fH.id ?_;simp only [go_sem,seval,hm,aG,hhl,hwi];(with_reducible and_intros)<;>first|exact .dq|omega|skip
    all_goals first
     | omega
     | (refine ah.step ((hole x out (j+1)).set (j+1) x) hi hI2 ?_
        simp only [go_sem,seval,List.map_set,hmz])
   ·rw [q,if_pos rfl] at hK;simp only [go_sem,seval,q,hm,aG,hhl,hw1,hmj];(with_reducible and_intros)<;>first|exact .dq|omega|skip
    all_goals first
     | omega
     | (refine ⟨j,⟨by omega,hK⟩,?_,by show j < j+1;omega⟩
        simp only [go_sem,seval,List.map_set,<- hset,hmz])
 ·rintro out hdx ⟨hI,hol⟩
  rw [List.drop_length] at hI;have hI:out=Al long l:=hI;simp only [go_sem,seval,aG,hdx,<- hI]
theorem DO (long:Bool) (l:List bu) (hl:l.length < 2 ^ 29):Abs.Spec Tryz.prog 229 [] [.bool long,.sl 5 (l.map bu.cells)] [] (.sl 5 ((Al long l).map bu.cells)):=by
 refine Spec.frozen (Gd long l hl) [0] rfl ?_;intro r;rcases r with _ | r<;>rfl
def qx (b:bu):Bool:=within b.aV 1 1048576&&within b.aR 1 1073741824
def ld:Int->List bu->List dP × Int
 | left,[]=>([],left)
 | left,b :: r=>if 0 < left then (⟨b.src,min left b.aV,b.aR⟩ :: (ld (left-min left b.aV) r).1,(ld (left-min left b.aV) r).2) else ([],left)
def pW (q:Int) (l:List bu):Int:=if within q (-1099511627776) 1099511627776&&l.all qx then 0 else 3
def jS (q:Int) (l:List bu):List dP × Int:=if pW q l=0 then ld (max q (-q)) (Al (decide (0 < q)) l) else ([],0)
theorem Fy:∀ (l:List bu) (left:Int),(ld left l).1.length<=l.length
 | [],_=>Nat.le_refl _
 | b :: r,left=>by
  simp only [ld];split
  ·have:=Fy r (left-min left b.aV);simp only [List.length_cons];omega
  ·simp
theorem HP (q:Int) (l:List bu) (hl:l.length < 2 ^ 28):Abs.Spec Tryz.prog 220 [] [.int .i64 q,.sl 5 (l.map bu.cells)] [.own 3 ((jS q l).1.map dP.cells)] (.bI [.ref 0,.int .i64 (jS q l).2,.int .i64 (pW q l)]):=by
 have c1:=fC q (-1099511627776) 1099511627776;have c2:=DO (decide (0 < q)) l (by omega);have hol:(Al (decide (0 < q)) l).length=l.length:=by rw [Al,Cl];simp
 refine bg 83 2 [.tmp 4,.tmp 5,.tmp 6] mixed Tryz.func220 ?_;simp only [go_sem,seval];refine aa.pure c1 ?_;cases b1:within q (-1099511627776) 1099511627776
 ·have e:pW q l=3:=by simp [pW,b1]
  simp only [go_sem,seval,jS,e]<;>simp
 have e:pW q l=if l.all qx then 0 else 3:=by simp [pW,b1]
 have hq:-1099511627776<=q/\q<=1099511627776:=by simpa [within] using b1
 simp only [jS];rw [e];clear e c1;simp only [go_sem,seval,aG];refine aC.walk (S:=Unit) l.length [0,1] [] (fun i _=>[(7,.int .i64 i)]) (fun _ _=>[]) (fun i _=>(l.drop i).all qx=l.all qx) () rfl ?_ ?_ ?_
 ·simp only [go_sem,seval]<;>simp
 ·intro i _ hi hdi hwi hI;have hm:=aD (c:=bu.cells) l hi;have hli:(i:Int) < (l.length:Int):=by omega
  obtain ⟨x,hx⟩:=aL (l[i]);have k1:=fC x.aV 1 1048576;have k2:=fC x.aR 1 1073741824;rw [dy hi,<- hx] at hI;rw [<- hx] at hm;simp only [List.all_cons,qx] at hI;simp only [bu.cells] at hm;clear c2;simp only [go_sem,seval,aG,hdi,hm];(with_reducible and_intros)<;>first|exact .dq|omega|skip
  refine aa.pure k1 ?_;cases q1:within x.aV 1 1048576
  ·rw [q1,Bool.false_and,Bool.false_and] at hI;have hI':l.all qx=false:=hI.symm;simp only [go_sem,seval,q1,hI']<;>simp
  simp only [go_sem,seval,q1,aG,hm];(with_reducible and_intros)<;>first|exact .dq|omega|skip
  refine aa.pure k2 ?_;cases q2:within x.aR 1 1073741824
  ·rw [q1,q2,Bool.and_false,Bool.false_and] at hI;have hI':l.all qx=false:=hI.symm;simp only [go_sem,seval,q2,hI']<;>simp
  rw [q1,q2,Bool.and_self,Bool.true_and] at hI;simp only [go_sem,seval,q2,hwi];refine ah.step () hi hI ?_;simp only [go_sem,seval]
 intro _ hdx hI;rw [List.drop_length] at hI;have hI:l.all qx=true:=hI.symm
 have hord:∀ b∈Al (decide (0 < q)) l,qx b=true:=by
  have key:∀ (long:Bool) (m out:List bu),(∀ b∈out,qx b=true)->(∀ b∈m,qx b=true)->∀ b∈BM long out m,qx b=true:=by
   intro long m
   induction m with
   | nil=>intro out h1 _;exact h1
   | cons x r ih =>
    intro out h1 h2;refine ih _ ?_ fun b hb=>h2 b (by simp [hb])
    intro b hb;rcases List.mem_append.1 hb with hb | hb
    ·exact h1 b (List.mem_of_mem_take hb)
    ·rcases List.mem_cons.1 hb with rfl | hb
     ·exact h2 b (by simp)
     ·exact h1 b (List.mem_of_mem_drop hb)
  exact key _ l [] (by simp) fun b hb=>List.all_eq_true.1 hI b hb
 rw [hI];clear hI;obtain ⟨o,ho⟩:=aL (Al (decide (0 < q)) l);rw [<- ho] at c2 hol hord |-;have hw0:IntKind.wrap .i64 (0-q) = -q:=by rw [bz (by omega) (by omega)];omega
 simp only [go_sem,seval,aG,hdx,hw0];(with_reducible and_intros)<;>first|exact .dq|omega|skip
 refine aa.pure c2 ?_;simp only [go_sem,seval,aG];(with_reducible and_intros)<;>first|exact .dq|omega|skip
 clear c2 hdx;refine aC.walk (S:=List dP × Int) o.length [9] [] (fun i s=>[(11,.int .i64 i),(8,.int .i64 s.2),(10,.ref 1296)]) (fun i s=>[(1296,.own 3 (s.1.map dP.cells))]) (fun i s=>(s.1++(ld s.2 (o.drop i)).1=(ld (max q (-q)) o).1/\(ld s.2 (o.drop i)).2=(ld (max q (-q)) o).2)/\s.1.length=i/\(0<=s.2/\s.2<=1099511627776)) ([],max q (-q)) ⟨⟨rfl,rfl⟩,rfl,by omega⟩ ?_ ?_ ?_
 ·simp only [go_sem,seval]<;>simp
 ·rintro i ⟨L,left⟩ hi hdi hwi ⟨⟨h1,h2⟩,h3,h4⟩
  dsimp only at h1 h2 h3 h4;have hm:=aD (c:=bu.cells) o hi;have hli:(i:Int) < (o.length:Int):=by omega
  have hxo:=hord _ (List.getElem_mem hi);obtain ⟨x,hx⟩:=aL (o[i]);rw [dy hi,<- hx] at h1 h2;rw [<- hx] at hm hxo;simp only [qx,within,bZ,decide_eq_true_eq] at hxo;simp only [ld] at h1 h2;simp only [bu.cells] at hm
  by_cases q5:0 < left
  ·have d:decide (0 < left)=true:=decide_eq_true q5;rw [if_pos q5] at h1 h2;have hw:IntKind.wrap .i64 (left-min left x.aV)=left-min left x.aV:=bz (by omega) (by omega);simp only [go_sem,seval,aG,hdi,hm,d,hw,hwi];(with_reducible and_intros)<;>first|exact .dq|omega|skip
   refine ah.step (L++[⟨x.src,min left x.aV,x.aR⟩],left-min left x.aV) hi ⟨⟨by rw [List.append_assoc];exact h1,h2⟩,by simp [h3],by dsimp only;omega⟩ ?_;simp only [go_sem,seval]<;>simp
  ·have d:decide (0 < left)=false:=decide_eq_false q5;rw [if_neg q5] at h1 h2;rw [List.append_nil] at h1;simp only [go_sem,seval,aG,hdi,hm,d,if_true,<- h1,<- h2]
   all_goals simp
 ·rintro ⟨L,left⟩ hdx ⟨⟨h1,h2⟩,h3,h4⟩
  dsimp only at h1 h2;rw [List.drop_length] at h1 h2;simp only [ld,List.append_nil] at h1 h2;simp only [go_sem,seval,aG,hdx,if_true,<- h1,<- h2]
  all_goals simp
def Ly (q n:Int) (p:aA):Bool:=p.inst==n&&((decide (0 < q)&&decide (p.aV < 0))||(decide (q < 0)&&decide (0 < p.aV)))
def xR (q n:Int) (l:List aA):List Int:=pick (Ly q n) aA.who l
def pN (q n:Int) (l:List aA):List Int:=pick (Ly q n) (fun p=>max p.aV (-p.aV)) l
theorem DV (b:aF) (w n:Int) (hb:b.small) (hr:∀ p∈b.qs,-1099511627776<=p.aV/\p.aV<=1099511627776):Abs.Spec Tryz.prog 230 [] [.agg b.cells,.agg [.int .i64 w,.int .i64 n]] [.own 1 (ints (xR (posOf w n b.qs).aV n b.qs)),.own 1 (ints (pN (posOf w n b.qs).aV n b.qs))] (.bI [.ref 0,.ref 1]):=by
 have c1:=m9 b w n hb;have hbl:=hb.2;obtain ⟨p,hp⟩:=aL (posOf w n b.qs);rw [<- hp] at c1 |-;simp only [aF.cells,aA.cells] at c1 |-;clear hp;refine bg 68 2 [.tmp 4,.tmp 5] mixed Tryz.func230 ?_;simp only [go_sem,seval];(with_reducible and_intros)<;>first|exact .dq|omega|skip
 refine aa.pure c1 ?_;simp only [go_sem,seval,aG];(with_reducible and_intros)<;>first|exact .dq|omega|skip
 clear c1;refine aC.walk (S:=Unit) b.qs.length [2,3,6] [48,64] (fun i _=>[(9,.int .i64 i),(7,.ref 912),(8,.ref 1056)]) (fun i _=>[(912,.own 1 (ints (xR p.aV n (b.qs.take i)))),(1056,.own 1 (ints (pN p.aV n (b.qs.take i))))]) (fun _ _=>True) () trivial ?_ ?_ ?_
 ·simp only [go_sem,seval]<;>simp [xR,pN,pick,ints]
 ·intro i _ hi hdi hwi _;have hm:=aD (c:=aA.cells) b.qs hi;have hs1:ints (xR p.aV n (b.qs.take (i+1)))=ints (xR p.aV n (b.qs.take i))++_:=fG (Ly p.aV n) aA.who hi;have hs2:ints (pN p.aV n (b.qs.take (i+1)))=ints (pN p.aV n (b.qs.take i))++_:=fG (Ly p.aV n) (fun p=>max p.aV (-p.aV)) hi;have hl1:(xR p.aV n (b.qs.take i)).length<=(b.qs.take i).length:=bY _ _ _;have hl2:(pN p.aV n (b.qs.take i)).length<=(b.qs.take i).length:=bY _ _ _;have hlt:(b.qs.take i).length=i:=by simp;omega
  have hli:(i:Int) < (b.qs.length:Int):=by omega
  have hxr:=hr _ (List.getElem_mem hi);obtain ⟨L,hL⟩:=aL (xR p.aV n (b.qs.take i));obtain ⟨M,hM⟩:=aL (pN p.aV n (b.qs.take i));obtain ⟨x,hx⟩:=aL (b.qs[i]);rw [<- hL] at hs1 hl1;rw [<- hM] at hs2 hl2;rw [<- hx] at hs1 hs2 hm hxr;rw [<- hL,<- hM];have hw0:IntKind.wrap .i64 (0-x.aV) = -x.aV:=by rw [bz (by omega) (by omega)];omega
  simp only [Ly] at hs1 hs2;simp only [aA.cells] at hm;cases q1:x.inst==n
  ·simp only [q1,Bool.false_and,fY,if_false,List.append_nil] at hs1 hs2;simp only [go_sem,seval,aG,hdi,hm,q1,hwi];(with_reducible and_intros)<;>first|exact .dq|omega|skip
   refine ah.step () hi trivial ?_;simp only [go_sem,seval,hs1,hs2]
  cases q2:decide (0 < p.aV)<;>cases q3:decide (x.aV < 0)<;>cases q4:decide (p.aV < 0)<;>cases q5:decide (0 < x.aV)<;>(
   simp only [q1,q2,q3,q4,q5,Bool.true_and,Bool.false_and,Bool.and_self,Bool.and_false,Bool.or_self,Bool.or_false,Bool.false_or,Bool.or_true,Bool.true_or,fY,if_false,if_true,List.append_nil] at hs1 hs2;simp only [go_sem,seval,aG,hdi,hm,q1,q2,q3,q4,q5,hw0,hwi,ay];(with_reducible and_intros)<;>first|exact .dq|omega|skip
   refine ah.step () hi trivial ?_
   simp only [go_sem,seval,hs1,hs2])
 ·intro _ hdx _;simp only [go_sem,seval,aG,hdx,List.take_length]
theorem Bd (b:aF) (w n:Int) (hb:b.small) (hr:∀ p∈b.qs,-1099511627776<=p.aV/\p.aV<=1099511627776):Abs.Spec Tryz.prog 230 [] [.agg b.cells,.agg [.int .i64 w,.int .i64 n]] [] (.bI [.sl 1 (ints (xR (posOf w n b.qs).aV n b.qs)),.sl 1 (ints (pN (posOf w n b.qs).aV n b.qs))]):=by
 refine Spec.frozen (DV b w n hb hr) [0,1] rfl ?_;intro r;rcases r with _ | _ | r<;>rfl
theorem Hj (q:Int) (l:List bu) (hl:l.length < 2 ^ 28):Abs.Spec Tryz.prog 220 [] [.int .i64 q,.sl 5 (l.map bu.cells)] [] (.bI [.sl 3 ((jS q l).1.map dP.cells),.int .i64 (jS q l).2,.int .i64 (pW q l)]):=by
 refine Spec.frozen (HP q l hl) [0] rfl ?_;intro r;rcases r with _ | r<;>rfl
def w9 (f:dP):Bool:=within f.aV 0 1099511627776&&within f.aR 0 1073741824
def FM (long:Bool) (n:Int):Int:=if long then n else -n
def ur (w n:Int) (long:Bool) (f:dP):List aA:=[⟨f.src,n,FM long f.aV,FM long (f.aV*f.aR)⟩,⟨w,n,-FM long f.aV,-FM long (f.aV*f.aR)⟩]
def j4 (l:List dP):Int:=if l.all w9 then (if l.all fun f=>bP (f.aV*f.aR) then 0 else 1) else 3
def kU (w n:Int) (long:Bool) (l:List dP):List aA:=if j4 l=0 then l.flatMap (ur w n long) else []
theorem D7 (w n:Int) (long:Bool) (l:List dP) (hl:l.length < 2 ^ 28):Abs.Spec Tryz.prog 221 [] [.agg [.int .i64 w,.int .i64 n],.bool long,.sl 3 (l.map dP.cells)] [.own 4 ((kU w n long l).map aA.cells)] (.bI [.ref 0,.int .i64 (j4 l)]):=by
 simp only [kU];refine bg 86 3 [.tmp 6,.tmp 7] mixed Tryz.func221 ?_;simp only [go_sem,seval,aG];refine aC.walk (S:=Unit) l.length [1,2,3] [64] (fun i _=>[(8,.int .i64 i)]) (fun _ _=>[]) (fun i _=>(l.drop i).all w9=l.all w9) () rfl ?_ ?_ ?_
 ·simp only [go_sem,seval]<;>simp
 ·intro i _ hi hdi hwi hI;have hm:=aD (c:=dP.cells) l hi;have hli:(i:Int) < (l.length:Int):=by omega
  obtain ⟨x,hx⟩:=aL (l[i]);have k1:=fC x.aV 0 1099511627776;have k2:=fC x.aR 0 1073741824;rw [dy hi,<- hx] at hI;rw [<- hx] at hm;simp only [List.all_cons,w9] at hI;simp only [dP.cells] at hm;simp only [go_sem,seval,aG,hdi,hm];(with_reducible and_intros)<;>first|exact .dq|omega|skip
  refine aa.pure k1 ?_;cases q1:within x.aV 0 1099511627776
  ·rw [q1,Bool.false_and,Bool.false_and] at hI;have hI':j4 l=3:=by simp only [j4];rw [show l.all w9=false from hI.symm];rfl
   simp only [go_sem,seval,q1,hI']<;>simp
  simp only [go_sem,seval,q1,aG,hm];(with_reducible and_intros)<;>first|exact .dq|omega|skip
  refine aa.pure k2 ?_;cases q2:within x.aR 0 1073741824
  ·rw [q1,q2,Bool.and_false,Bool.false_and] at hI;have hI':j4 l=3:=by simp only [j4];rw [show l.all w9=false from hI.symm];rfl
   simp only [go_sem,seval,q2,hI']<;>simp
  rw [q1,q2,Bool.and_self,Bool.true_and] at hI;simp only [go_sem,seval,q2,hwi];refine ah.step () hi hI ?_;simp only [go_sem,seval]
 intro _ hdx hI;rw [List.drop_length] at hI;have hI:l.all w9=true:=hI.symm;have hall:∀ f∈l,w9 f=true:=List.all_eq_true.1 hI;have e:j4 l=if l.all fun f=>bP (f.aV*f.aR) then 0 else 1:=by simp [j4,hI]
 rw [e];clear e hI;simp only [go_sem,seval,aG,hdx];clear hdx;refine aC.walk (S:=Unit) l.length [1,2,3] [64] (fun i _=>[(10,.int .i64 i),(9,.ref 1360)]) (fun i _=>[(1360,.own 4 (((l.take i).flatMap (ur w n long)).map aA.cells))]) (fun i _=>((l.drop i).all fun f=>bP (f.aV*f.aR))=l.all fun f=>bP (f.aV*f.aR)) () rfl ?_ ?_ ?_
 ·simp only [go_sem,seval]<;>simp
 ·intro i _ hi hdi hwi hI;have hm:=aD (c:=dP.cells) l hi;have hli:(i:Int) < (l.length:Int):=by omega
  have hs:=gl (ur w n long) hi;have hnl:=fm (f:=ur w n long) (m:=2) (fun f=>by simp [ur]) (l.take i);have hlt:(l.take i).length=i:=by simp;omega
  have hxo:=hall _ (List.getElem_mem hi);obtain ⟨L,hL⟩:=aL ((l.take i).flatMap (ur w n long));obtain ⟨x,hx⟩:=aL (l[i]);rw [<- hL] at hs hnl |-;rw [dy hi,<- hx,List.all_cons] at hI;rw [<- hx] at hs hm hxo;simp only [w9,within,bZ,decide_eq_true_eq] at hxo;have c1:=yK x.aV x.aR ⟨by omega,by omega⟩ ⟨by omega,by omega⟩;simp only [ur] at hs;obtain ⟨C,hC⟩:=aL (x.aV*x.aR);rw [<- hC] at c1 hI hs;simp only [dP.cells] at hm;simp only [go_sem,seval,aG,hdi,hm];(with_reducible and_intros)<;>first|exact .dq|omega|skip
  refine aa.pure c1 ?_;cases q1:bP C
  ·rw [q1,Bool.false_and] at hI;rw [<- hI];simp only [go_sem,seval,q1]
   all_goals simp
  have hCr:=cm.1 q1;rw [q1,Bool.true_and] at hI;have w1:IntKind.wrap .i64 (0-x.aV) = -x.aV:=by rw [bz (by omega) (by omega)];omega
  have w2:IntKind.wrap .i64 (0-C) = -C:=by rw [bz (by omega) (by omega)];omega
  have w3:IntKind.wrap .i64 (0 - -x.aV) = - -x.aV:=by rw [bz (by omega) (by omega)];omega
  have w4:IntKind.wrap .i64 (0 - -C) = - -C:=by rw [bz (by omega) (by omega)];omega
  cases long
  ·simp only [FM,fY,if_false] at hs;simp only [go_sem,seval,q1,aG,hm,w1,w2,w3,w4,hwi,if_true];(with_reducible and_intros)<;>first|exact .dq|omega|skip
   refine ah.step () hi hI ?_;simp only [go_sem,seval,hs]<;>simp
  ·simp only [FM,if_true] at hs;simp only [go_sem,seval,q1,aG,hm,w1,w2,w3,w4,hwi,if_true];(with_reducible and_intros)<;>first|exact .dq|omega|skip
   refine ah.step () hi hI ?_;simp only [go_sem,seval,hs]<;>simp
 ·intro _ hdx hI;rw [List.drop_length] at hI;rw [<- hI];simp only [go_sem,seval,aG,hdx,List.take_length];(with_reducible and_intros)<;>first|exact .dq|omega|skip
  all_goals simp
theorem tC (w n:Int) (long:Bool) (l:List dP) (hl:l.length < 2 ^ 28):Abs.Spec Tryz.prog 221 [] [.agg [.int .i64 w,.int .i64 n],.bool long,.sl 3 (l.map dP.cells)] [] (.bI [.sl 4 ((kU w n long l).map aA.cells),.int .i64 (j4 l)]):=by
 refine Spec.frozen (D7 w n long l hl) [0] rfl ?_;intro r;rcases r with _ | r<;>rfl
theorem Be (t:Int) (l:List Int) (hl:l.length < 2 ^ 30):Abs.Spec Tryz.prog 204 [] [.int .i64 t,.sl 1 (ints l)] [] (.bI [.sl 1 (ints (if rZ t l=0 then xB t l else [])),.int .i64 (if rZ t l=0 then Gj t l else 0),.int .i64 (rZ t l)]):=by
 refine Spec.frozen (DM t l hl) [0] rfl ?_;intro r;rcases r with _ | r<;>rfl
def mS (c gM:Int) (caps:List Int):Int:=if (within c 0 2&&caps.length==5)&&(within gM 0 4611686018427387904&&rZ gM caps==0) then 0 else 3
def LU (c gM rest:Int) (g:List Int):dM:=⟨c,gM,g.getD 0 0,g.getD 1 0,g.getD 2 0,g.getD 3 0,g.getD 4 0,rest⟩
def tj (c gM:Int) (caps:List Int):dM:=if mS c gM caps=0 then LU c gM (Gj gM caps) (xB gM caps) else ⟨0,0,0,0,0,0,0,0⟩
theorem IX:∀ (l:List Int) (t:Int),(xB t l).length=l.length
 | [],_=>rfl
 | c :: r,t=>by simp only [xB,List.length_cons,IX r]
def QK (g:List Int) (i:Nat):List D:=[.int .i64 (if 0 < i then g.getD 0 0 else 0),.int .i64 (if 1 < i then g.getD 1 0 else 0),.int .i64 (if 2 < i then g.getD 2 0 else 0),.int .i64 (if 3 < i then g.getD 3 0 else 0),.int .i64 (if 4 < i then g.getD 4 0 else 0)]
theorem FQ (c gM:Int) (caps:List Int) (hl:caps.length < 2 ^ 30):Abs.Spec Tryz.prog 149 [] [.int .i64 c,.int .i64 gM,.sl 1 (ints caps)] [] (.bI [.agg (tj c gM caps).cells,.int .i64 (mS c gM caps)]):=by
 have c1:=fB c;have c2:=fC gM 0 4611686018427387904;have c3:=Be gM caps hl;refine bg 53 3 [.cell 6 116,.tmp 7] mixed Tryz.func149 ?_;simp only [go_sem,seval];(with_reducible and_intros)<;>first|exact .dq|omega|skip
 refine aa.pure c1 ?_;cases b1:within c 0 2
 ·have e:mS c gM caps=3:=by simp [mS,b1]
  simp only [go_sem,seval,tj,e,dM.cells]<;>simp
 by_cases b2:caps.length=5
 case neg =>
  have d:(((caps.length:Nat):Int)==5)=false:=by simp;omega
  have e:mS c gM caps=3:=by simp [mS,b2]
  simp only [go_sem,seval,ay,bne,d,tj,e,dM.cells]<;>simp
 have d2:(((caps.length:Nat):Int)==5)=true:=by simp;omega
 simp only [go_sem,seval,ay,bne,d2];(with_reducible and_intros)<;>first|exact .dq|omega|skip
 refine aa.pure c2 ?_;cases b3:within gM 0 4611686018427387904
 ·have e:mS c gM caps=3:=by simp [mS,b3]
  simp only [go_sem,seval,tj,e,dM.cells]<;>simp
 simp only [go_sem,seval];(with_reducible and_intros)<;>first|exact .dq|omega|skip
 refine aa.pure c3 ?_
 by_cases b4:rZ gM caps=0
 case neg =>
  have d:(rZ gM caps==0)=false:=by simpa using b4
  have e:mS c gM caps=3:=by simp [mS,d]
  rw [if_neg b4,if_neg b4];simp only [go_sem,seval,bne,d,tj,e,dM.cells]<;>simp
 have e:mS c gM caps=0:=by simp [mS,b1,b2,b3,b4]
 have hgl:(xB gM caps).length=5:=by rw [IX,b2]
 simp only [tj,e,if_true];rw [b4,if_pos rfl,if_pos rfl];obtain ⟨g,hg⟩:=aL (xB gM caps);obtain ⟨T,hT⟩:=aL (Gj gM caps);rw [<- hg] at hgl |-;rw [<- hT];clear hg hT c1 c2 c3 e;simp only [go_sem,seval];(with_reducible and_intros)<;>first|exact .dq|omega|skip
 refine aC.walk (S:=Unit) 5 [6,8,11] [112] (fun i _=>[(12,.int .i64 i)]) (fun i _=>[(192,.box ([.int .i64 c,.int .i64 gM]++QK g i++[.int .i64 T]))]) (fun _ _=>True) () trivial ?_ ?_ ?_
 ·simp only [go_sem,seval,QK]<;>simp
 ·intro i _ hi hdi hwi _;have hdi:decide ((i:Int) < 5)=true:=hdi;have hi':i < g.length:=by omega
  have hm:=ints_at g hi';have hg:g[i]=g.getD i 0:=by simp [hi']
  rw [hg] at hm;have hli:(i:Int) < (g.length:Int):=by omega
  obtain rfl | rfl | rfl | rfl | rfl:i=0\/i=1\/i=2\/i=3\/i=4:=by omega
  all_goals
   simp only [QK,List.cons_append,List.nil_append];simp only [go_sem,seval,hdi,ay,hm,hwi];(with_reducible and_intros)<;>first|exact .dq|omega|skip
   refine ah.step () hi trivial ?_;simp only [go_sem,seval,QK]
   all_goals rfl
 ·intro _ hdx _;simp only [go_sem,seval,QK,LU,dM.cells]
  all_goals simp
theorem TI (X Y:Int):(X / 18446744073709551616 < Y / 18446744073709551616\/(X / 18446744073709551616=Y / 18446744073709551616/\X%18446744073709551616 < Y%18446744073709551616)) ↔ X < Y:=by omega
theorem th (X Y:Int):Abs.Spec Tryz.prog 235 [] [.agg (wd X),.agg (wd Y)] [] (.bool (decide (X < Y))):=by
 have h:=TI X Y;simp only [wd];refine bg 24 2 [.tmp 4] mixed Tryz.func235 ?_;obtain ⟨a,ha⟩:=aL (X / 18446744073709551616);obtain ⟨b,hb⟩:=aL (Y / 18446744073709551616);obtain ⟨c,hc⟩:=aL (X%18446744073709551616);obtain ⟨d,hd⟩:=aL (Y%18446744073709551616);rw [<- ha,<- hb,<- hc,<- hd] at h;rw [<- ha,<- hb,<- hc,<- hd];clear ha hb hc hd
 have he:decide (X < Y)=(decide (a < b)||(a==b&&decide (c < d))):=by
  rw [Bool.eq_iff_iff];simp only [decide_eq_true_eq,Bool.or_eq_true,bZ,beq_iff_eq];exact h.symm
 rw [he];clear he h;cases q1:decide (a < b)
 ·cases q2:a==b
  ·simp only [go_sem,seval,q1,q2,Bool.false_or,Bool.false_and]
   all_goals (with_reducible and_intros)<;>first|exact .dq|omega|skip
  ·simp only [go_sem,seval,q1,q2,Bool.false_or,Bool.true_and]
   all_goals (with_reducible and_intros)<;>first|exact .dq|omega|skip
 ·simp only [go_sem,seval,q1,Bool.true_or]
  all_goals (with_reducible and_intros)<;>first|exact .dq|omega|skip
theorem Tf (X Y:Int) (h:-42535295865117307932921825928971026432<=X/\X<=42535295865117307932921825928971026432) (h':-42535295865117307932921825928971026432<=Y/\Y<=42535295865117307932921825928971026432) :
  IntKind.wrap .i64 ((X / 18446744073709551616%18446744073709551616+Y / 18446744073709551616%18446744073709551616+(X%18446744073709551616+Y%18446744073709551616+0) / 18446744073709551616)%18446744073709551616)=(X+Y) / 18446744073709551616:=by
 have h1:=F7 X Y;rw [h1];obtain ⟨z,hz⟩:=aL ((X+Y) / 18446744073709551616);have hzr:-9223372036854775808<=z/\z < 9223372036854775808:=by omega
 rw [<- hz,IntKind.wrap_i64];omega
theorem Ql (X Y:Int):((decide (X / 18446744073709551616 < 0) != decide (Y / 18446744073709551616 < 0))||(decide ((X+Y) / 18446744073709551616 < 0)==decide (X / 18446744073709551616 < 0)))=true:=by
 by_cases h1:X / 18446744073709551616 < 0<;>by_cases h2:Y / 18446744073709551616 < 0
 ·have h3:(X+Y) / 18446744073709551616 < 0:=by omega
  simp [h1,h2,h3]
 ·simp [h1,h2]
 ·simp [h1,h2]
 ·have h3:¬ (X+Y) / 18446744073709551616 < 0:=by omega
  simp [h1,h2,h3]
theorem DZ (X Y:Int) (h:-42535295865117307932921825928971026432<=X/\X<=42535295865117307932921825928971026432) (h':-42535295865117307932921825928971026432<=Y/\Y<=42535295865117307932921825928971026432):Abs.Spec Tryz.prog 237 [] [.agg (wd X),.agg (wd Y)] [] (.bI [.agg (wd (X+Y)),.bool true]):=by
 have hux:IntKind.wrap .u64 (X / 18446744073709551616)=(X / 18446744073709551616)%18446744073709551616:=IntKind.wrap_u64 _;have huy:IntKind.wrap .u64 (Y / 18446744073709551616)=(Y / 18446744073709551616)%18446744073709551616:=IntKind.wrap_u64 _;have e1:=Hl X Y;have e2:=Tf X Y h h';have e3:=Ql X Y;obtain ⟨p,hp⟩:=aL (decide (X / 18446744073709551616 < 0));obtain ⟨q,hq⟩:=aL (decide (Y / 18446744073709551616 < 0));obtain ⟨s,hs⟩:=aL (decide ((X+Y) / 18446744073709551616 < 0));rw [<- hp,<- hq,<- hs] at e3;simp only [wd];refine bg 50 2 [.cell 4 128,.tmp 5] mixed Tryz.func237 ?_;simp only [go_sem,seval];refine aa.sem rfl ?_
 with_reducible refine kW.sC (k:=156) (fn:=Tryz.f156) (i:=X%18446744073709551616) (j:=Y%18446744073709551616) (m:=0) ?_ Tryz.func156 ?_ ?_ iO iH ?_ ?_ ?_ ?_ ?_ ?_ ?_ ?_ ?_
 iterate 11 (first | rfl | omega)
 simp only [go_sem,seval,hux,huy];refine aa.sem rfl ?_
 with_reducible refine kW.sC (k:=156) (fn:=Tryz.f156) (i:=X / 18446744073709551616%18446744073709551616) (j:=Y / 18446744073709551616%18446744073709551616) (m:=(X%18446744073709551616+Y%18446744073709551616+0) / 18446744073709551616) ?_ Tryz.func156 ?_ ?_ iO iH ?_ ?_ ?_ ?_ ?_ ?_ ?_ ?_ ?_
 iterate 11 (first | rfl | omega)
 simp only [go_sem,seval,e1,e2,<- hp,<- hq,<- hs];cases p<;>cases q<;>cases s<;>(try (exact absurd e3 (by decide)))
 all_goals simp only [go_sem,seval,bne,beq_self_eq_true,Bool.not_true]
 all_goals (with_reducible and_intros)<;>first|exact .dq|omega|skip
 all_goals (rw [<- hs,<- hp];rfl)
theorem ZP (h:Int) (h0:0<=h) (h1:h < 4611686018427387904):zN .i64 h 1=2*h:=by
 unfold zN;have h2:min (Int.toNat 1) (IntKind.bits .i64)=1:=by simp [IntKind.bits]
 rw [h2,IntKind.wrap_i64];omega
theorem ael (h c:Int) (h0:0<=h) (h1:h < 4611686018427387904) (hc:0<=c/\c<=1):YL .i64 (2*h) c=2*h+c:=by
 obtain ⟨n,rfl⟩:∃ n:Nat,h=n:=⟨h.toNat,by omega⟩
 obtain ⟨m,rfl⟩:∃ m:Nat,c=m:=⟨c.toNat,by omega⟩
 unfold YL;rw [BitVec.toNat_or,BitVec.toNat_ofInt,BitVec.toNat_ofInt];simp only [IntKind.bits];have e1:((2*(n:Int))%((2 ^ 64:Nat):Int)).toNat=2 ^ 1*n:=by omega
 have e2:((m:Int)%((2 ^ 64:Nat):Int)).toNat=m:=by omega
 rw [e1,e2,<- Nat.two_pow_add_eq_or_of_lt (by omega:m < 2 ^ 1),IntKind.wrap_i64];omega
theorem abV (l:Int) (h0:0<=l):zN .u64 l 1=l*2%18446744073709551616:=by
 unfold zN;have h2:min (Int.toNat 1) (IntKind.bits .u64)=1:=by simp [IntKind.bits]
 rw [h2,IntKind.wrap_u64];rfl
theorem VQ (l:Int) (h0:0<=l):ym .u64 l 63=l / 9223372036854775808:=by
 have:=O0 l.toNat 63 (by omega);rw [Int.toNat_of_nonneg h0] at this;have e:((63:Nat):Int)=63:=rfl;rw [e] at this;rw [this];have e2:(2:Nat) ^ 63=9223372036854775808:=by decide
 rw [e2];omega
def TG (s:Int):Bool:=decide (4611686018427387904<=s / 18446744073709551616)
def Gr:Nat->Int->Int
 | 0,s=>s
 | k+1,s=>if TG s then s else Gr k (2*s)
def Bc:Nat->Int->Bool
 | 0,_=>true
 | k+1,s=>if TG s then false else Bc k (2*s)
theorem FI:∀ {k:Nat} {s:Int},Bc k s=true->Gr k s=s*2 ^ k
 | 0,s,_=>by simp [Gr]
 | k+1,s,h=>by
  simp only [Bc] at h;split at h
  ·cases h
  ·rename_i hb;simp only [Gr,if_neg hb];rw [FI h,Int.mul_comm 2 s,Int.mul_assoc,Int.pow_succ,Int.mul_comm 2]
theorem Cc:∀ {k:Nat} {s:Int},0<=s->Bc k s=false->85070591730234615865843651857942052864<=s*2 ^ k
 | 0,s,_,h=>by cases h
 | k+1,s,h0,h=>by
  simp only [Bc] at h;split at h
  ·rename_i hb;simp only [TG,decide_eq_true_eq] at hb;have h3:1<=(2:Nat) ^ (k+1):=Nat.one_le_two_pow
   have h1:(1:Int)<=2 ^ (k+1):=by
    have e:((2 ^ (k+1):Nat):Int)=(2:Int) ^ (k+1):=by push_cast;rfl
    rw [<- e];omega
   have h2:s*1<=s*2 ^ (k+1):=Int.mul_le_mul_of_nonneg_left h1 h0;omega
  ·have:=Cc (k:=k) (s:=2*s) (by omega) h;rw [Int.pow_succ,<- Int.mul_assoc,Int.mul_comm (s*2 ^ k) 2,<- Int.mul_assoc];exact this
theorem Q4 (s:Int) (h0:0<=s) (h1:s / 18446744073709551616 < 4611686018427387904):2*(s / 18446744073709551616)+s%18446744073709551616 / 9223372036854775808=2*s / 18446744073709551616:=by omega
theorem Rt (s:Int):s%18446744073709551616*2%18446744073709551616=2*s%18446744073709551616:=by omega
theorem DY (X:Int) (k:Nat) (h0:0<=X) (hk:k < 100) (hX:X < 170141183460469231731687303715884105728):Abs.Spec Tryz.prog 236 [] [.agg (wd X),.int .i64 k] [] (.bI [.agg (wd (Gr k X)),.bool (Bc k X)]):=by
 simp only [wd];refine bg 29 2 [.cell 4 128,.tmp 5] mixed Tryz.func236 ?_;simp only [go_sem,seval];refine aC.walk (S:=Int) k [1,2,4] [80] (fun i _=>[(6,.int .i64 i)]) (fun _ s=>[(48,.box [.int .i64 (s / 18446744073709551616),.int .u64 (s%18446744073709551616)])]) (fun i s=>(Gr (k-i) s=Gr k X/\Bc (k-i) s=Bc k X)/\0<=s/\s < 170141183460469231731687303715884105728) X ⟨⟨rfl,rfl⟩,h0,hX⟩ ?_ ?_ ?_
 ·simp only [go_sem,seval]<;>simp
 ·rintro i s hi hdi hwi ⟨⟨h1,h2⟩,h3,h4⟩
  obtain ⟨m,hm⟩:∃ m,k-i=m+1:=⟨k-i-1,by omega⟩
  have hm2:k-(i+1)=m:=by omega
  rw [hm] at h1 h2;simp only [Gr,Bc] at h1 h2;cases hb:TG s
  case true =>
   have d:decide (4611686018427387904<=s / 18446744073709551616)=true:=hb;rw [hb,if_pos rfl] at h1 h2;rw [<- h1,<- h2];simp only [go_sem,seval,hdi,d]
  have d:decide (4611686018427387904<=s / 18446744073709551616)=false:=hb;have hlt:s / 18446744073709551616 < 4611686018427387904:=by simpa using d
  rw [hb,if_neg (by simp)] at h1 h2;have e1:=ZP (s / 18446744073709551616) (by omega) hlt;have e2:=VQ (s%18446744073709551616) (by omega);have hcr:0<=s%18446744073709551616 / 9223372036854775808/\s%18446744073709551616 / 9223372036854775808<=1:=by omega
  have e3:IntKind.wrap .i64 (s%18446744073709551616 / 9223372036854775808)=s%18446744073709551616 / 9223372036854775808:=bz (by omega) (by omega);have e4:=ael (s / 18446744073709551616) (s%18446744073709551616 / 9223372036854775808) (by omega) hlt hcr;have e5:=abV (s%18446744073709551616) (by omega);rw [Rt] at e5;rw [Q4 s h3 hlt] at e4;simp only [go_sem,seval,hdi,d,e1,e2,e3,e4,e5,hwi];(with_reducible and_intros)<;>first|exact .dq|omega|skip
  refine ah.step (2*s) hi ⟨⟨by rw [hm2];exact h1,by rw [hm2];exact h2⟩,by omega,by omega⟩ ?_;simp only [go_sem,seval]
 ·rintro s hdx ⟨⟨h1,h2⟩,h3,h4⟩
  rw [Nat.sub_self] at h1 h2;simp only [Gr,Bc] at h1 h2;rw [<- h1,<- h2];simp only [go_sem,seval,hdx]
theorem T6:∀ {k:Nat},k<=62->(2:Int) ^ k<=4611686018427387904/\1<=(2:Int) ^ k:=by
 intro k hk;have h1:(2:Nat) ^ k<=2 ^ 62:=Nat.pow_le_pow_right (by decide) hk;have h2:(2:Nat) ^ 62=4611686018427387904:=by decide
 have h3:1<=(2:Nat) ^ k:=Nat.one_le_two_pow;have e:((2 ^ k:Nat):Int)=(2:Int) ^ k:=by push_cast;rfl
 rw [<- e];omega
theorem Sp {k:Nat} (hk:k<=62):zN .i64 1 (k:Int)=(2:Int) ^ k:=by
 have h:=T6 hk;unfold zN;have h1:min (Int.toNat (k:Int)) (IntKind.bits .i64)=k:=by simp [IntKind.bits];omega
 rw [h1,Int.one_mul];exact bz (by omega) (by omega)
theorem Da (X Y:Int) (h0:0<=X) (hX:X < 42535295865117307932921825928971026432) (hY:1<=Y) (hY2:Y < 42535295865117307932921825928971026432) (hq:X < Y*9223372036854775808):Abs.Spec Tryz.prog 234 [] [.agg (wd X),.agg (wd Y)] [] (.bI [.int .i64 (X / Y),.agg (wd (X%Y))]):=by
 have cS:=fun k hk=>DY Y k (by omega) hk (by omega)
 have cL:=fun a b=>th a b
 simp only [wd] at cS cL;simp only [wd];refine bg 42 2 [.tmp 4,.cell 5 128] mixed Tryz.func234 ?_;simp only [go_sem,seval]
 refine aC.walk (S:=Int × Int) 63 [3,5,7] [64,96] (fun i s=>[(8,.int .i64 ((62:Int)-i)),(6,.int .i64 s.1)]) (fun _ s=>[(128,.box [.int .i64 (s.2 / 18446744073709551616),.int .u64 (s.2%18446744073709551616)])])
  (fun i s=>(0<=s.2/\s.2 < Y*2 ^ (63-i))/\s.1*Y+s.2=X/\0<=s.1) (0,X) ⟨⟨h0,hq⟩,by simp,by simp⟩ ?_ ?_ ?_
 ·simp only [go_sem,seval]<;>simp
 ·rintro i ⟨q,r⟩ hi _ _ ⟨⟨h1,h2⟩,h3,h4⟩
  dsimp only at h1 h2 h3 h4;obtain ⟨k,hk⟩:∃ k,62-i=k:=⟨_,rfl⟩
  have hki:(62:Int)-(i:Int)=(k:Int):=by omega
  have hk1:63-i=k+1:=by omega
  have hk2:63-(i+1)=k:=by omega
  have hd:decide (0<=(k:Int))=true:=decide_eq_true (by omega);have hw:IntKind.wrap .i64 ((k:Int)-1)=(62:Int)-((i+1:Nat):Int):=by rw [bz (by omega) (by omega)];omega
  have cS:=cS k (by omega);have hone:=Sp (k:=k) (by omega);have hpw:=T6 (k:=k) (by omega);obtain ⟨Q,hQ⟩:=aL ((2:Int) ^ k);rw [hk1,Int.pow_succ,<- hQ] at h2;rw [<- hQ] at hone hpw;obtain ⟨Z,hZ⟩:=aL (Y*Q);have h2:r < 2*Z:=by rw [hZ];rw [<- Int.mul_assoc] at h2;omega
  have hrX:r<=X:=by
   have:=Int.mul_nonneg h4 (show 0<=Y by omega);omega
  rw [hki];cases hE:Bc k Y
  ·have hbig:=Cc (by omega) hE;rw [<- hQ,<- hZ] at hbig;rw [hE] at cS;simp only [go_sem,seval,hd];(with_reducible and_intros)<;>first|exact .dq|omega|skip
   refine aa.pure cS ?_;simp only [go_sem,seval,hw];(with_reducible and_intros)<;>first|exact .dq|omega|skip
   refine ah.step (q,r) hi ⟨⟨h1,by rw [hk2,<- hQ,<- hZ];dsimp only;omega⟩,h3,h4⟩ ?_;simp only [go_sem,seval]
  have hV:=FI hE;rw [<- hQ,<- hZ] at hV;rw [hE,hV] at cS;have cL:=cL r Z;simp only [go_sem,seval,hd];(with_reducible and_intros)<;>first|exact .dq|omega|skip
  refine aa.pure cS ?_;simp only [go_sem,seval];(with_reducible and_intros)<;>first|exact .dq|omega|skip
  refine aa.pure cL ?_
  by_cases hl:r < Z
  ·have d:decide (r < Z)=true:=decide_eq_true hl;simp only [go_sem,seval,d,hw];(with_reducible and_intros)<;>first|exact .dq|omega|skip
   refine ah.step (q,r) hi ⟨⟨h1,by rw [hk2,<- hQ,<- hZ];exact hl⟩,h3,h4⟩ ?_;simp only [go_sem,seval]
  have d:decide (r < Z)=false:=decide_eq_false hl;have hZ0:0<=Z:=by rw [hZ];exact Int.mul_nonneg (by omega) (by omega)
  have cN:=aaK Z (by omega);have cA:=DZ r (-Z) (by omega) (by omega);have e1:r + -Z=r-Z:=by omega
  have e2:(q+Q)*Y+(r-Z)=X:=by rw [Int.add_mul,Int.mul_comm Q Y,<- hZ];omega
  have e3:q+Q < 9223372036854775808:=by
   rcases Int.lt_or_le (q+Q) 9223372036854775808 with h | h
   ·exact h
   ·have:=Int.mul_le_mul_of_nonneg_right h (show 0<=Y by omega);rw [Int.mul_comm 9223372036854775808 Y] at this;omega
  have e4:IntKind.wrap .i64 (q+Q)=q+Q:=bz (by omega) e3;rw [e1] at cA;simp only [wd] at cN cA;simp only [go_sem,seval,d];(with_reducible and_intros)<;>first|exact .dq|omega|skip
  refine aa.pure cN ?_;simp only [go_sem,seval];(with_reducible and_intros)<;>first|exact .dq|omega|skip
  refine aa.pure cA ?_;simp only [go_sem,seval,hone,e4,hw];(with_reducible and_intros)<;>first|exact .dq|omega|skip
  refine ah.step (q+Q,r-Z) hi ⟨⟨by dsimp only;omega,by rw [hk2,<- hQ,<- hZ];dsimp only;omega⟩,e2,by dsimp only;omega⟩ ?_;simp only [go_sem,seval]
 ·rintro ⟨q,r⟩ _ ⟨⟨h1,h2⟩,h3,h4⟩
  dsimp only at h1 h2 h3 h4;rw [Nat.sub_self,Int.pow_zero,Int.mul_one] at h2
  have eq:X / Y=q:=by
   rw [<- h3,Int.add_comm,Int.add_mul_ediv_right _ _ (by omega),Int.ediv_eq_zero_of_lt h1 h2];omega
  have er:X%Y=r:=by
   rw [<- h3,Int.add_comm,Int.add_mul_emod_self_right,Int.emod_eq_of_lt h1 h2]
  rw [eq,er];have hx:(62:Int)-((63:Nat):Int) = -1:=by omega
  rw [hx];simp only [go_sem,seval];(with_reducible and_intros)<;>first|exact .dq|omega|skip
def uk (t W:Int) (ws:List Int):List Int:=ws.map fun w=>t*w / W
def MK (t W:Int) (ws:List Int):List Int:=ws.map fun w=>t*w%W
def gD (rs:List Int) (gs:List Bool):Nat->Int
 | 0=>-1
 | i+1=>if !(gs.getD i true)&&(decide (gD rs gs i < 0)||decide (rs.getD (gD rs gs i).toNat 0 < rs.getD i 0)) then (i:Int) else gD rs gs i
def oN (rs:List Int):Nat->List Bool->List Int->List Int
 | 0,_,ps=>ps
 | n+1,gs,ps=>oN rs n (gs.set (gD rs gs rs.length).toNat true) (ps.set (gD rs gs rs.length).toNat (ps.getD (gD rs gs rs.length).toNat 0+1))
def iX (t:Int) (ws:List Int):Int:=if (!decide (t < 0)&&bP t)&&right ws then (if vQ ws then (if 1024 < ws.length then 5 else if az ws=0 then (if t=0 then 0 else 2) else 0) else 3) else 3
def fL (t:Int) (ws:List Int):List Int:=
 if iX t ws=0 then (if az ws=0 then List.replicate ws.length 0 else oN (MK t (az ws) ws) (t-az (uk t (az ws) ws)).toNat (List.replicate ws.length false) (uk t (az ws) ws)) else []
theorem Fk (rs:List Int):∀ (n:Nat) (gs:List Bool) (ps:List Int),(oN rs n gs ps).length=ps.length
 | 0,_,_=>rfl
 | n+1,gs,ps=>by simp only [oN];rw [Fk rs n];simp
theorem qW (t:Int) (ws:List Int):(fL t ws).length<=ws.length:=by
 unfold fL;split
 ·split
  ·simp
  ·rw [Fk];simp [uk]
 ·simp
theorem yc (rs:List Int) (gs:List Bool):∀ i,-1<=gD rs gs i/\gD rs gs i < i
 | 0=>by simp [gD]
 | i+1=>by
  have:=yc rs gs i;simp only [gD];split<;>omega
theorem Gb (rs:List Int) (gs:List Bool):∀ i,(∃ j < i,gs.getD j true=false)->0<=gD rs gs i
 | 0,h=>by obtain ⟨j,hj,_⟩:=h;omega
 | i+1,h=>by
  simp only [gD];split
  ·omega
  ·rename_i hc;rcases Int.lt_or_le (gD rs gs i) 0 with hb | hb
   ·have hd:decide (gD rs gs i < 0)=true:=decide_eq_true hb;rw [hd,Bool.true_or,Bool.and_true] at hc;obtain ⟨j,hj,he⟩:=h;rcases Nat.lt_or_ge j i with h2 | h2
    ·have:=Gb rs gs i ⟨j,h2,he⟩;omega
    ·obtain rfl:j=i:=by omega
     rw [he] at hc;exact absurd rfl hc
   ·exact hb
theorem B4 (rs:List Int) (gs:List Bool):∀ i,0<=gD rs gs i->gs.getD (gD rs gs i).toNat true=false
 | 0,h=>by simp [gD] at h
 | i+1,h=>by
  simp only [gD] at h |-;split
  ·rename_i hc;simp only [bZ,Bool.not_eq_true'] at hc;rw [show ((i:Int)).toNat=i by omega];exact hc.1
  ·rename_i hc;rw [if_neg hc] at h;exact B4 rs gs i h
theorem FY:∀ {gs:List Bool},gs.count true < gs.length->∃ j < gs.length,gs.getD j true=false
 | [],h=>by simp at h
 | b :: r,h=>by
  cases b
  ·exact ⟨0,by simp,rfl⟩
  ·simp only [List.count_cons_self,List.length_cons] at h;obtain ⟨j,hj,he⟩:=FY (gs:=r) (by omega);exact ⟨j+1,by simp;omega,by simpa using he⟩
theorem count_set:∀ {gs:List Bool} {j:Nat},gs.getD j true=false->(gs.set j true).count true=gs.count true+1
 | [],j,h=>by simp at h
 | b :: r,0,h=>by
  have h:b=false:=h;subst h;simp
 | b :: r,j+1,h=>by
  have:=count_set (gs:=r) (j:=j) (by simpa using h);simp only [List.set_cons_succ,List.count_cons,this];omega
theorem lQ:∀ {l:List Int},(∀ x∈l,0<=x)->0<=az l
 | [],_=>by simp [az]
 | x :: r,h=>by
  have h1:=h x (by simp);have h2:=lQ (l:=r) fun y hy=>h y (by simp [hy])
  simp only [az];omega
theorem AK:∀ {l:List Int},(∀ x∈l,0<=x)->∀ x∈l,x<=az l
 | [],_,x,hx=>by cases hx
 | y :: r,h,x,hx=>by
  have h1:=h y (by simp);have h2:=lQ (l:=r) fun z hz=>h z (by simp [hz])
  simp only [az];rcases List.mem_cons.1 hx with rfl | hx
  ·omega
  ·have:=AK (l:=r) (fun z hz=>h z (by simp [hz])) x hx;omega
theorem JB:∀ {l:List Int},(∀ x∈l,0<=x)->∀ i,az (l.take i)<=az l
 | [],_,i=>by simp
 | y :: r,h,0=>by simp only [List.take_zero];exact lQ h
 | y :: r,h,i+1=>by
  have:=JB (l:=r) (fun z hz=>h z (by simp [hz])) i;simp only [List.take_succ_cons,az];omega
theorem Gk {t W:Int} (hW:1<=W):∀ {l:List Int},(∀ x∈l,0<=t*x)->0<=az (uk t W l)/\W*az (uk t W l)+az (MK t W l)=t*az l/\0<=az (MK t W l)/\az (MK t W l)<=(W-1)*l.length
 | [],_=>by simp [uk,MK,az]
 | x :: r,h=>by
  obtain ⟨h1,h2,h3,h4⟩:=Gk hW (l:=r) fun y hy=>h y (by simp [hy])
  have h0:=h x (by simp);have a1:=Int.mul_ediv_add_emod (t*x) W;have a2:=Int.emod_nonneg (t*x) (show W≠0 by omega);have a3:=Int.emod_lt_of_pos (t*x) (show 0 < W by omega);have a4:0<=t*x / W:=Int.ediv_nonneg h0 (by omega);have e1:uk t W (x :: r)=(t*x / W) :: uk t W r:=rfl;have e2:MK t W (x :: r)=(t*x%W) :: MK t W r:=rfl;rw [e1,e2];simp only [az,List.length_cons];refine ⟨by omega,?_,by omega,?_⟩
  ·rw [Int.mul_add,Int.mul_add];omega
  ·push_cast
   rw [Int.mul_add];omega
theorem vM {t W:Int} {ws:List Int} (ht:0<=t) (hW:az ws=W) (hW1:1<=W) (hw:∀ x∈ws,0<=x):0<=t-az (uk t W ws)/\t-az (uk t W ws) < ws.length:=by
 obtain ⟨h1,h2,h3,h4⟩:=Gk (t:=t) hW1 (l:=ws) fun x hx=>Int.mul_nonneg ht (hw x hx)
 rw [hW,Int.mul_comm t W] at h2;have h5:W*(t-az (uk t W ws))=az (MK t W ws):=by rw [Int.mul_sub];omega
 have hpos:0 < ws.length:=by
  cases ws with
  | nil=>simp [az] at hW;omega
  | cons x r=>simp
 constructor
 ·rcases Int.lt_or_le (t-az (uk t W ws)) 0 with h | h
  ·have:=Int.mul_neg_of_pos_of_neg (show 0 < W by omega) h;omega
  ·exact h
 ·rcases Int.lt_or_le (t-az (uk t W ws)) ws.length with h | h
  ·exact h
  ·have h6:=Int.mul_le_mul_of_nonneg_left h (show 0<=W by omega);rw [Int.sub_mul] at h4;omega
theorem rH {t W x:Int} (ht:0<=t) (hW1:1<=W) (h0:0<=x) (hx:x<=W):0<=t*x / W/\t*x / W<=t:=by
 have h1:=Int.mul_nonneg ht h0;refine ⟨Int.ediv_nonneg h1 (by omega),?_⟩;have h2:t*x<=t*W:=Int.mul_le_mul_of_nonneg_left hx ht;have h3:=Int.ediv_le_ediv (show 0 < W by omega) h2;rw [Int.mul_ediv_cancel _ (show W≠0 by omega)] at h3;exact h3
theorem J1 {t W:Int} {ws:List Int} (ht:0<=t) (hW:az ws=W) (hW1:1<=W) (hw:∀ x∈ws,0<=x) (i:Nat):0<=az (uk t W (ws.take i))/\az (uk t W (ws.take i))<=t:=by
 have hw':∀ x∈ws.take i,0<=x:=fun x hx=>hw x (List.mem_of_mem_take hx)
 obtain ⟨h1,h2,h3,h4⟩:=Gk (t:=t) hW1 (l:=ws.take i) fun x hx=>Int.mul_nonneg ht (hw' x hx)
 have h5:=JB hw i;refine ⟨h1,?_⟩;rcases Int.lt_or_le t (az (uk t W (ws.take i))) with h | h
 ·have h6:t*az (ws.take i)<=t*W:=Int.mul_le_mul_of_nonneg_left (by omega) ht;have h7:=Int.mul_lt_mul_of_pos_left h (show 0 < W by omega);rw [Int.mul_comm W t] at h7;omega
 ·exact h
def xU (f:Int->Int) (ws:List Int) (i:Nat):List Int:=(ws.take i).map f++List.replicate (ws.length-i) 0
theorem Oj (f:Int->Int) (ws:List Int):xU f ws 0=List.replicate ws.length 0:=by simp [xU]
theorem HN (f:Int->Int) (ws:List Int):xU f ws ws.length=ws.map f:=by simp [xU]
theorem Jr (f:Int->Int) (ws:List Int) {i:Nat} (h:i<=ws.length):(xU f ws i).length=ws.length:=by simp [xU];omega
theorem Kw (f:Int->Int) {ws:List Int} {i:Nat} (h:i < ws.length):(xU f ws i).set i (f ws[i])=xU f ws (i+1):=by
 have hl:((ws.take i).map f).length=i:=by simp;omega
 have e:ws.length-i=(ws.length-(i+1))+1:=by omega
 simp only [xU];rw [List.set_append_right _ _ (by omega),hl,Nat.sub_self,e,List.replicate_succ,List.set_cons_zero,List.take_succ_eq_append_getElem h,List.map_append,List.append_assoc];rfl
def DQ (gs:List Bool):List (List D):=gs.map fun b=>[.bool b]
theorem xq (gs:List Bool):(DQ gs).length=gs.length:=by simp [DQ]
theorem Mb (gs:List Bool) {i:Nat} (h:i < gs.length):(DQ gs).getD i []=[.bool gs[i]]:=by simp [DQ,h]
theorem ints_set (l:List Int) (i:Nat) (v:Int):(ints l).set i [.int .i64 v]=ints (l.set i v):=by simp [ints,List.map_set]
theorem S3 (l:List Int) (i:Nat) (v:Int):(kD l).set i [.int .i64 (v / 18446744073709551616),.int .u64 (v%18446744073709551616)]=kD (l.set i v):=by simp [kD,wd,List.map_set]
theorem Sc (l:List Bool) (i:Nat) (v:Bool):(DQ l).set i [.bool v]=DQ (l.set i v):=by simp [DQ,List.map_set]
theorem Cz (n:Nat):List.replicate n [D.int .i64 0]=ints (List.replicate n 0):=by simp [ints]
theorem MV (n:Nat):List.replicate n [D.int .i64 0,D.int .u64 0]=kD (List.replicate n 0):=by simp [kD,wd]
theorem RY (n:Nat):List.replicate n [D.bool false]=DQ (List.replicate n false):=by simp [DQ]
theorem GP (t:Int) (ws:List Int) (hl:ws.length < 2 ^ 30):Abs.Spec Tryz.prog 231 [] [.int .i64 t,.sl 1 (ints ws)] [.own 1 (ints (fL t ws))] (.bI [.ref 0,.int .i64 (iX t ws)]):=by
 have c1:=cZ t;have c2:=uO ws (by omega);refine bg 149 2 [.tmp 4,.tmp 5] mixed Tryz.func231 ?_
 by_cases q0:t < 0
 ·have d:decide (t < 0)=true:=decide_eq_true q0;have e:iX t ws=3:=by simp [iX,q0]
  simp only [go_sem,seval,d,fL,e]<;>simp [ints]
 have d0:decide (t < 0)=false:=decide_eq_false q0;simp only [go_sem,seval,d0];refine aa.pure c1 ?_;cases q1:bP t
 ·have e:iX t ws=3:=by simp [iX,q1]
  simp only [go_sem,seval,fL,e]<;>simp [ints]
 simp only [go_sem,seval];refine aa.pure c2 ?_;cases q2:right ws
 ·have e:iX t ws=3:=by simp [iX,q2]
  simp only [go_sem,seval,fL,e]<;>simp [ints]
 have e:iX t ws=if vQ ws then (if 1024 < ws.length then 5 else if az ws=0 then (if t=0 then 0 else 2) else 0) else 3:=by simp only [iX,d0,q1,q2];rfl
 simp only [fL];rw [e];clear e c1 c2;have hin:=fun x hx=>cm.1 (List.all_eq_true.1 q2 x hx)
 have htin:=cm.1 q1;simp only [go_sem,seval,ay];refine aC.walk (S:=Unit) ws.length [0,1] [] (fun i _=>[(7,.int .i64 i),(6,.ref 768)]) (fun i _=>[(768,.own 2 (kD (ws.take i)))]) (fun i _=>vQ (ws.drop i)=vQ ws) () rfl ?_ ?_ ?_
 ·simp only [go_sem,seval]<;>simp [kD]
 ·intro i _ hi hdi hwi hI;have hm:=ints_at ws hi;have hli:(i:Int) < (ws.length:Int):=by omega
  have hxr:=hin _ (List.getElem_mem hi);have hnext:kD (ws.take (i+1))=kD (ws.take i)++[wd ws[i]]:=by rw [List.take_succ_eq_append_getElem hi];simp only [kD,List.map_append,List.map_cons,List.map_nil]
  have hlen:(kD (ws.take i)).length=i:=by simp [kD];omega
  obtain ⟨x,hx⟩:=aL (ws[i]);rw [dy hi,<- hx] at hI;rw [<- hx] at hm hxr hnext;have hO:=qN x ⟨by omega,by omega⟩;have hc:vQ (x :: ws.drop (i+1))=(!decide (x < 0)&&vQ (ws.drop (i+1))):=rfl;rw [hc] at hI;simp only [wd] at hO hnext
  by_cases q:x < 0
  ·have d:decide (x < 0)=true:=decide_eq_true q;rw [d,Bool.not_true,Bool.false_and] at hI;rw [<- hI];simp only [go_sem,seval,ay,hdi,hm,d];(with_reducible and_intros)<;>first|exact .dq|omega|skip
   all_goals simp [ints]
  ·have d:decide (x < 0)=false:=decide_eq_false q;rw [d,Bool.not_false,Bool.true_and] at hI;simp only [go_sem,seval,ay,hdi,hm,d];(with_reducible and_intros)<;>first|exact .dq|omega|skip
   refine aa.pure hO ?_;simp only [go_sem,seval,hwi,hlen];(with_reducible and_intros)<;>first|exact .dq|omega|skip
   refine ah.step () hi hI ?_;simp only [go_sem,seval,hnext]
 intro _ hdx hI;rw [List.drop_length] at hI;have hI:vQ ws=true:=hI.symm
 have hnn:∀ x∈ws,0<=x:=fun x hx=>by
  have:=List.all_eq_true.1 hI x hx;simp only [Bool.not_eq_true',decide_eq_false_iff_not] at this;omega
 rw [hI];clear hI
 by_cases q4:1024 < ws.length
 ·have d:decide (1024 < (ws.length:Int))=true:=decide_eq_true (by omega);simp only [go_sem,seval,ay,hdx,if_pos q4,d];(with_reducible and_intros)<;>first|exact .dq|omega|skip
  all_goals simp [ints]
 have d4:decide (1024 < (ws.length:Int))=false:=decide_eq_false (by omega);have hsr:=vu q2;obtain ⟨hi1,hi2⟩:=Nc (l:=ws) (fun n hn=>⟨by have:=hin n hn;omega,by have:=hin n hn;omega⟩) (by omega);have hS:=jW ws (by omega) hi1;have hs0:=lQ hnn;have hmem:=AK hnn;have htk:=fun (h:1<=az ws) (i:Nat)=>J1 (t:=t) (ws:=ws) (by omega) rfl h hnn i
 have hlr:=fun (h:1<=az ws)=>vM (t:=t) (ws:=ws) (by omega) rfl h hnn
 rw [hi2,if_pos rfl] at hS;obtain ⟨W,hW⟩:=aL (az ws);rw [<- hW] at hS hsr hs0 hmem htk hlr |-;simp only [wd] at hS;simp only [go_sem,seval,ay,hdx,if_neg q4,d4,List.take_length];(with_reducible and_intros)<;>first|exact .dq|omega|skip
 refine aa.gen [] [] true (by simp) ?_;simp only [go_sem,seval];refine aY.intro hS ?_;clear hS hdx hi1 hi2 d4
 by_cases q5:W=0
 ·rw [q5]
  by_cases q6:t=0
  ·rw [q6];simp only [go_sem,seval,ay,if_true,Cz];(with_reducible and_intros)<;>first|exact .dq|omega|skip
   all_goals (first | omega | simp [ints])
  ·have d:(t==0)=false:=by simpa using q6
   simp only [go_sem,seval,ay,if_true,bne,d,if_neg q6];(with_reducible and_intros)<;>first|exact .dq|omega|skip
   all_goals simp [ints]
 have hW1:1<=W:=by omega
 have htk:=htk hW1;have hlr:=hlr hW1
 have dW:(W / 18446744073709551616==0&&W%18446744073709551616==0)=false:=by
  rw [Bool.and_eq_false_iff];simp only [beq_eq_false_iff_ne];omega
 have hmid:∀ {Q:Prop},((W / 18446744073709551616==0)=false->Q)->((W / 18446744073709551616==0)=true->(W%18446744073709551616==0)=false->Q)->Q:=fun f g=>by
  cases h:W / 18446744073709551616==0
  ·exact f h
  ·exact g h (by rw [h,Bool.true_and] at dW;exact dW)
 simp only [if_neg q5,if_true];obtain ⟨R,hR⟩:=aL (MK t W ws);obtain ⟨T,hT⟩:=aL (oN R (t-az (uk t W ws)).toNat (List.replicate ws.length false) (uk t W ws));rw [<- hR,<- hT];have hRl:R.length=ws.length:=by rw [hR];simp [MK]
 have hbst:=yc R;refine hmid (fun h=>?_) (fun h h'=>?_)
 all_goals
  simp only [go_sem,seval,h]
  try simp only [go_sem,seval,h']
  (with_reducible and_intros)<;>first|exact .dq|omega|skip
  simp only [go_sem,seval,ay,Cz,MV];(with_reducible and_intros)<;>first|exact .dq|omega|skip
  try (rw [ay];omega)
 all_goals try (rw [ay];omega)
 all_goals
  refine aC.walk (S:=Unit) ws.length [0,1,8] [144] (fun i _=>[(13,.int .i64 i),(12,.int .i64 (t-az (uk t W (ws.take i)))),(10,.ref 176),(11,.ref 192)]) (fun i _=>[(176,.own 1 (ints (xU (fun w=>t*w / W) ws i))),(192,.own 2 (kD (xU (fun w=>t*w%W) ws i)))]) (fun _ _=>True) () trivial ?_ ?_ ?_
  ·simp only [go_sem,seval,Oj]<;>simp [uk,az,ay,Cz,MV]
  ·intro i _ hi hdi hwi _;have hm:=ints_at ws hi;have hli:(i:Int) < (ws.length:Int):=by omega
   have hx1:=hin _ (List.getElem_mem hi);have hx2:=hnn _ (List.getElem_mem hi);have hx3:=hmem _ (List.getElem_mem hi);have hp1:=Jr (fun w=>t*w / W) ws (i:=i) (by omega);have hp2:=Jr (fun w=>t*w%W) ws (i:=i) (by omega);have hs1:=Kw (fun w=>t*w / W) hi;have hs2:=Kw (fun w=>t*w%W) hi;have hpi:=htk i;have hpn:=htk (i+1)
   have hpe:az (uk t W (ws.take (i+1)))=az (uk t W (ws.take i))+t*ws[i] / W:=by
    rw [List.take_succ_eq_append_getElem hi];simp only [uk,List.map_append,List.map_cons,List.map_nil,sU]
   obtain ⟨x,hx⟩:=aL (ws[i]);rw [<- hx] at hm hx1 hx2 hx3 hs1 hs2 hpe;have hmr:=eT (a:=t) (b:=x) (A:=4611686018427387904) (B:=4611686018427387904) (by omega) (by omega);have hm0:=Int.mul_nonneg (show 0<=t by omega) hx2;have hpr:=rH (t:=t) (W:=W) (x:=x) (by omega) hW1 hx2 hx3
   have hlt:t*x < W*9223372036854775808:=by
    have h1:t*x<=t*W:=Int.mul_le_mul_of_nonneg_left hx3 (by omega);have h2:t*W<=4611686018427387904*W:=Int.mul_le_mul_of_nonneg_right htin.2 (by omega);omega
   have cT:=lP t x ⟨by omega,by omega⟩ ⟨by omega,by omega⟩;have cD:=Da (t*x) W hm0 (by omega) hW1 (by omega) hlt;obtain ⟨P,hP⟩:=aL (t*x / W);obtain ⟨Z,hZ⟩:=aL (t*x%W);obtain ⟨Y,hY⟩:=aL (t*x);obtain ⟨S,hS⟩:=aL (az (uk t W (ws.take i)));obtain ⟨A,hA⟩:=aL (xU (fun w=>t*w / W) ws i);obtain ⟨B,hB⟩:=aL (xU (fun w=>t*w%W) ws i);rw [<- hP,<- hZ,<- hY] at cD;rw [<- hY] at cT;rw [<- hP,<- hA] at hs1;rw [<- hZ,<- hB] at hs2;rw [<- hA] at hp1;rw [<- hB] at hp2;rw [<- hP,<- hS] at hpe;rw [<- hS] at hpi;rw [<- hP] at hpr;rw [hpe] at hpn;rw [<- hA,<- hB,<- hS];have hwl:IntKind.wrap .i64 (t-S-P)=t-(S+P):=by rw [bz (by omega) (by omega)];omega
   have hsa:∀ V,((ints A).set i [.int .i64 V]).getD i []=[.int .i64 V]:=fun V=>by simp [ints,hp1,hi]
   have hmA:=ints_at A (i:=i) (by omega);have hmB:=sB B (i:=i) (by omega);simp only [wd] at cT cD;clear hA hB hP hZ hY hS hmid htk hlr hT hR;simp only [go_sem,seval,ay,hdi,hm];(with_reducible and_intros)<;>first|exact .dq|omega|skip
   refine aa.pure cT ?_;simp only [go_sem,seval];(with_reducible and_intros)<;>first|exact .dq|omega|skip
   refine aa.pure cD ?_;simp only [go_sem,seval,ay,we,hp1,hp2,hmA,hmB];(with_reducible and_intros)<;>first|exact .dq|omega|skip
   all_goals try simp only [go_sem,seval,ay,we,hp1,hp2,hmA,hmB,hsa,hwl,hwi,List.length_set]
   all_goals (with_reducible and_intros)<;>first|exact .dq|omega|skip
   all_goals first
    | (simp only [List.length_set,ay,we];omega)
    | (refine ah.step () hi trivial ?_
       simp only [go_sem,seval,ints_set,S3,hs1,hs2,hpe]<;>simp)
  intro _ hdx _;have hP1:ws.map (fun w=>t*w / W)=uk t W ws:=rfl;have hR1:ws.map (fun w=>t*w%W)=R:=hR.symm;have hpl:(uk t W ws).length=ws.length:=by simp [uk]
  have hpv:∀ p∈uk t W ws,0<=p/\p<=4611686018427387904:=fun p hp=>by
   obtain ⟨x,hx,rfl⟩:=List.mem_map.1 hp;have:=rH (t:=t) (W:=W) (x:=x) (by omega) hW1 (hnn x hx) (hmem x hx);omega
  obtain ⟨n0,hn0⟩:∃ n0:Nat,n0=(t-az (uk t W ws)).toNat:=⟨_,rfl⟩
  have hn1:t-az (uk t W ws)=(n0:Int):=by omega
  rw [<- hn0] at hT;have hnl:n0 < ws.length:=by omega
  obtain ⟨p0,hp0⟩:=aL (uk t W ws);rw [<- hp0] at hT hpl hpv;rw [List.take_length,HN,HN,hP1,hR1,hn1,<- hp0]
  have hloop:∀ gs:List Bool,gs.count true < gs.length->gs.length=ws.length->0<=gD R gs ws.length/\gD R gs ws.length < ws.length/\gs.getD (gD R gs ws.length).toNat true=false:=fun gs h1 h2=>by
   obtain ⟨j,hj,he⟩:=FY h1;have:=Gb R gs ws.length ⟨j,by omega,he⟩;exact ⟨this,(hbst gs _).2,B4 R gs _ this⟩
  clear hmid htk hlr hR hP1 hR1 hp0 hn0 hn1 hin hnn hmem;simp only [go_sem,seval,ay,hdx,RY];(with_reducible and_intros)<;>first|exact .dq|omega|skip
  all_goals try (rw [ay];omega)
  refine aC.PX (T:=Nat × List Bool × List Int) [1,11] [192] (fun s=>[(12,.int .i64 (s.1:Nat)),(10,.ref 176),(14,.ref 240)]) (fun s=>[(176,.own 1 (ints s.2.2)),(240,.own 1 (DQ s.2.1))])
   (fun s=>oN R s.1 s.2.1 s.2.2=T/\s.2.1.length=ws.length/\s.2.2.length=ws.length/\s.2.1.count true+s.1 < ws.length/\∀ p∈s.2.2,0<=p/\p+(s.1:Nat)<=4611686018427387904+(n0:Nat)) (fun s=>s.1) (n0,List.replicate ws.length false,p0) ?_ ?_ ?_
  ·refine ⟨hT.symm,by simp,hpl,by simp [List.count_replicate];omega,?_⟩;intro p hp;have:=hpv p hp;dsimp only;omega
  ·simp only [go_sem,seval]<;>simp
  rintro ⟨n,gs,ps⟩ ⟨h1,h2,h3,h4,h5⟩
  dsimp only at h1 h2 h3 h4 h5 |-;rcases Nat.eq_zero_or_pos n with rfl | hpos
  ·have h1:ps=T:=h1;rw [h1];simp only [go_sem,seval];refine fH.id ?_;simp only [go_sem,seval]
  obtain ⟨m,rfl⟩:∃ m,n=m+1:=⟨n-1,by omega⟩
  obtain ⟨hb1,hb2,hb3⟩:=hloop gs (by omega) h2;have hd0:decide (0 < ((m+1:Nat):Int))=true:=decide_eq_true (by omega);have hw1:IntKind.wrap .i64 (((m+1:Nat):Int)-1)=(m:Int):=by rw [bz (by omega) (by omega)];omega
  simp only [oN,hRl] at h1;simp only [go_sem,seval,hd0,ay];refine aC.walk (S:=Unit) ws.length [1,10,11,12,14] [176,192,240] (fun i _=>[(16,.int .i64 i),(15,.int .i64 (gD R gs i))]) (fun _ _=>[]) (fun _ _=>True) () trivial ?_ ?_ ?_
  ·simp only [go_sem,seval]<;>simp [gD]
  ·intro i _ hi hdi hwi _;have hig:i < gs.length:=by omega
   have hiR:i < R.length:=by omega
   have hmg:=Mb gs hig;have hmi:=sB R hiR;have hgd:gs.getD i true=gs[i]:=by simp [hig]
   have hRd:R.getD i 0=R[i]:=by simp [hiR]
   have hb:=hbst gs i
   have hst:gD R gs (i+1)=if !gs[i]&&(decide (gD R gs i < 0)||decide (R.getD (gD R gs i).toNat 0 < R[i])) then (i:Int) else gD R gs i:=by
    simp only [gD,hgd,hRd]
   have hli:(i:Int) < (gs.length:Int):=by omega
   have hlR:(i:Int) < (R.length:Int):=by omega
   cases hg:gs[i]
   case true =>
    rw [hg] at hst hmg;simp only [Bool.not_true,Bool.false_and,fY,if_false] at hst;simp only [go_sem,seval,ay,hdi,hmg,xq,hwi];(with_reducible and_intros)<;>first|exact .dq|omega|skip
    refine ah.step () hi trivial ?_;simp only [go_sem,seval,hst]
   rw [hg] at hst hmg;rcases Int.lt_or_le (gD R gs i) 0 with hb0 | hb0
   ·have d:decide (gD R gs i < 0)=true:=decide_eq_true hb0;simp only [d,Bool.not_false,Bool.true_and,Bool.true_or,if_true] at hst;simp only [go_sem,seval,ay,hdi,hmg,xq,d,hwi];(with_reducible and_intros)<;>first|exact .dq|omega|skip
    refine ah.step () hi trivial ?_;simp only [go_sem,seval,hst]
   have d:decide (gD R gs i < 0)=false:=decide_eq_false (by omega);obtain ⟨b,hbb⟩:∃ b:Nat,gD R gs i=b:=⟨(gD R gs i).toNat,by omega⟩
   have hbR:b < R.length:=by omega
   have hmb:=sB R hbR;have hbd:R.getD b 0=R[b]:=by simp [hbR]
   have hlb:(b:Int) < (R.length:Int):=by omega
   have cL:=th R[b] R[i];rw [hbb] at d hst;simp only [d,Bool.not_false,Bool.true_and,Bool.false_or,Int.toNat_natCast,hbd] at hst;simp only [wd] at cL;simp only [hbb];simp only [go_sem,seval,ay,hdi,hmg,xq,d,hmb,hmi,we];(with_reducible and_intros)<;>first|exact .dq|omega|skip
   refine aa.pure cL ?_
   by_cases hl:R[b] < R[i]
   ·have d2:decide (R[b] < R[i])=true:=decide_eq_true hl;rw [d2,if_pos rfl] at hst;simp only [go_sem,seval,d2,hwi];(with_reducible and_intros)<;>first|exact .dq|omega|skip
    refine ah.step () hi trivial ?_;simp only [go_sem,seval,hst]
   ·have d2:decide (R[b] < R[i])=false:=decide_eq_false hl;rw [d2,if_neg (by simp)] at hst;simp only [go_sem,seval,d2,hwi];(with_reducible and_intros)<;>first|exact .dq|omega|skip
    refine ah.step () hi trivial ?_;simp only [go_sem,seval,hst]
  ·intro _ hdx _;obtain ⟨b,hbb⟩:∃ b:Nat,gD R gs ws.length=b:=⟨(gD R gs ws.length).toNat,by omega⟩
   rw [hbb] at h1 hb1 hb2 hb3 |-;rw [Int.toNat_natCast] at h1 hb3;have hbg:b < gs.length:=by omega
   have hbp:b < ps.length:=by omega
   have hmg:=Mb gs hbg;have hmp:=ints_at ps hbp;have hpd:ps.getD b 0=ps[b]:=by simp [hbp]
   have hlg:(b:Int) < (gs.length:Int):=by omega
   have hlp:(b:Int) < (ps.length:Int):=by omega
   have hpr:=h5 ps[b] (List.getElem_mem hbp);have hwp:IntKind.wrap .i64 (ps[b]+1)=ps[b]+1:=bz (by omega) (by omega);rw [hpd] at h1;have hcs:=count_set hb3
   have h5':∀ p∈ps.set b (ps[b]+1),0<=p/\p+(m:Nat)<=4611686018427387904+(n0:Nat):=fun p hp=>by
    rcases List.mem_or_eq_of_mem_set hp with h | rfl
    ·have:=h5 p h;omega
    ·omega
   simp only [go_sem,seval,ay,hdx,hmg,hmp,xq,hwp,hw1];(with_reducible and_intros)<;>first|exact .dq|omega|skip
   refine ⟨(m,gs.set b true,ps.set b (ps[b]+1)),⟨h1,by simp [h2],by simp [h3],by dsimp only;omega,h5'⟩,?_,by simp⟩;simp only [go_sem,seval,ints_set,Sc]<;>simp
theorem uW (t:Int) (ws:List Int) (hl:ws.length < 2 ^ 30):Abs.Spec Tryz.prog 231 [] [.int .i64 t,.sl 1 (ints ws)] [] (.bI [.sl 1 (ints (fL t ws)),.int .i64 (iX t ws)]):=by
 refine Spec.frozen (GP t ws hl) [0] rfl ?_;intro r;rcases r with _ | r<;>rfl
theorem Fh {rs:List Int} {B:Int}:∀ (n:Nat) (gs:List Bool) (ps:List Int),0<=B->(∀ p∈ps,0<=p/\p<=B)->∀ p∈oN rs n gs ps,0<=p/\p<=B+n
 | 0,_,_,_,h=>fun p hp=>by have:=h p hp;simp;omega
 | n+1,gs,ps,hB,h=>by
  intro p hp;simp only [oN] at hp
  have:=Fh (B:=B+1) n _ _ (by omega) (fun q hq=>by
   rcases List.mem_or_eq_of_mem_set hq with h1 | rfl
   ·have:=h q h1;omega
   ·have:0<=ps.getD (gD rs gs rs.length).toNat 0/\ps.getD (gD rs gs rs.length).toNat 0<=B:=by
     rw [List.getD_eq_getElem?_getD];cases he:ps[(gD rs gs rs.length).toNat]? with
     | none=>simp;exact hB
     | some x=>exact h x (List.mem_of_getElem? he)
    omega) p hp
  push_cast;omega
theorem Lg (t:Int) (ws:List Int):∀ p∈fL t ws,0<=p/\p<=4611686018427388928:=by
 intro p hp;unfold fL at hp;split at hp
 ·rename_i hE;unfold iX at hE;split at hE
  ·rename_i h1;simp only [bZ,Bool.not_eq_true',decide_eq_false_iff_not] at h1;split at hE
   ·rename_i h2;split at hE
    ·cases hE
    ·rename_i h3;split at hp
     ·have:p=0:=by simpa using (List.mem_replicate.1 hp).2
      omega
     ·rename_i h4
      have hnn:∀ x∈ws,0<=x:=fun x hx=>by
       have:=List.all_eq_true.1 h2 x hx;simp only [Bool.not_eq_true',decide_eq_false_iff_not] at this;omega
      have hs0:=lQ hnn;have hlr:=vM (t:=t) (ws:=ws) (by omega) rfl (by omega) hnn;have htr:=cm.1 h1.1.2
      have:=Fh (B:=4611686018427387904) _ _ _ (by decide) (fun q hq=>by
       obtain ⟨x,hx,rfl⟩:=List.mem_map.1 hq;have:=rH (t:=t) (W:=az ws) (x:=x) (by omega) (by omega) (hnn x hx) (AK hnn x hx)
       omega) p hp
      omega
   ·cases hE
  ·cases hE
 ·cases hp
def yD (c:Int) (ws:List Int):Bool:=lZ (fun x=>within x 1 16) (fun a b=>decide (a < b)) ws&&within c 0 2
theorem uB (c:Int) (ws:List Int) (hl:ws.length < 2 ^ 30):Abs.Spec Tryz.prog 223 [] [.int .i64 c,.sl 1 (ints ws)] [] (.bool (yD c ws)):=by
 have c2:=fB c;simp only [yD];refine bg 36 2 [.tmp 4] mixed Tryz.func223 ?_;simp only [go_sem,seval,ay];refine aC.walk (S:=Unit) ws.length [0,1] [] (fun i _=>[(5,.int .i64 i)]) (fun _ _=>[]) (fun i _=>∀ j < i,kG (fun x=>within x 1 16) (fun a b=>decide (a < b)) ws j=true) () (by simp) ?_ ?_ ?_
 ·simp only [go_sem,seval]<;>simp
 ·intro i _ hi hdi hwi hI;have hm:=ints_at ws hi;have hli:(i:Int) < (ws.length:Int):=by omega
  have h1:=fE ws[i];have e0:=nj (ok:=fun x=>within x 1 16) (lt:=fun a b:Int=>decide (a < b)) (xs:=ws) (i:=i) hI;have e1:kG (fun x=>within x 1 16) (fun a b=>decide (a < b)) ws i=false->lZ (fun x=>within x 1 16) (fun a b=>decide (a < b)) ws=false:=fun h=>rq hi h
  rcases Nat.eq_zero_or_pos i with rfl | hpos
  ·have hk:=gz (ok:=fun x=>within x 1 16) (lt:=fun a b:Int=>decide (a < b)) hi;have hd0:decide ((0:Int) < (ws.length:Int))=true:=decide_eq_true (by omega);simp only [go_sem,seval,ay,hd0,hm];(with_reducible and_intros)<;>first|exact .dq|omega|skip
   refine aa.pure h1 ?_;cases q:within ws[0] 1 16
   ·have:=e1 (by rw [hk,q]);simp only [go_sem,seval,q,this,Bool.false_and]
    all_goals (with_reducible and_intros)<;>first|exact .dq|omega|skip
   simp only [go_sem,seval,q,hwi]
   all_goals (with_reducible and_intros)<;>first|exact .dq|omega|skip
   all_goals refine ah.step () hi (e0 (by rw [hk,q])) ?_
   all_goals simp only [go_sem,seval]
   all_goals rfl
  ·obtain ⟨j,rfl⟩:∃ j,i=j+1:=⟨i-1,by omega⟩
   have hj:j < ws.length:=by omega
   have hw1:IntKind.wrap .i64 (((j+1:Nat):Int)-1)=(j:Int):=by rw [bz (by omega) (by omega)];omega
   have hk:=fQ (ok:=fun x=>within x 1 16) (lt:=fun a b:Int=>decide (a < b)) hi;have hmj:=ints_at ws hj;have hd:decide (0 < ((j+1:Nat):Int))=true:=decide_eq_true (by omega);simp only [go_sem,seval,ay,hdi,hm];(with_reducible and_intros)<;>first|exact .dq|omega|skip
   refine aa.pure h1 ?_;cases q:within ws[j+1] 1 16
   ·have:=e1 (by rw [hk,q];rfl);simp only [go_sem,seval,q,this,Bool.false_and]
    all_goals (with_reducible and_intros)<;>first|exact .dq|omega|skip
   by_cases q2:ws[j] < ws[j+1]
   ·have d:decide (ws[j+1]<=ws[j])=false:=decide_eq_false (by omega);simp only [go_sem,seval,q,hd,hw1,hmj,hm,ay,d,hwi];(with_reducible and_intros)<;>first|exact .dq|omega|skip
    refine ah.step () hi (e0 (by rw [hk,q,decide_eq_true q2];rfl)) ?_;simp only [go_sem,seval]
   ·have d:decide (ws[j+1]<=ws[j])=true:=decide_eq_true (by omega);have:=e1 (by rw [hk,q,decide_eq_false q2];rfl);simp only [go_sem,seval,q,hd,hw1,hmj,hm,ay,d,this,Bool.false_and];(with_reducible and_intros)<;>first|exact .dq|omega|skip
 ·intro _ hdx hI;have:=lY (fun j (hj:j < ws.length)=>hI j hj);simp only [go_sem,seval,ay,hdx,this];(with_reducible and_intros)<;>first|exact .dq|omega|skip
  refine aa.pure c2 ?_;simp only [go_sem,seval,Bool.true_and]
def gU (l:bq) (c:Int) (ws:List Int):List Int:=ws.map fun w=>gw ⟨3,w,c⟩ l.bs
theorem GG (l:bq) (c:Int) (ws:List Int) (hb:l.bs.length < 2 ^ 30) (hl:ws.length < 2 ^ 30):Abs.Spec Tryz.prog 224 [] [.agg l.cells,.int .i64 c,.sl 1 (ints ws)] [.own 1 (ints (gU l c ws))] (.ref 0):=by
 have cO:=fun a=>j0 l a hb
 simp only [bq.cells,aH.cells] at cO |-;refine bg 27 3 [.tmp 6] mixed Tryz.func224 ?_;simp only [go_sem,seval,ay];refine aC.walk (S:=Unit) ws.length [1,2,3] [64] (fun i _=>[(8,.int .i64 i),(7,.ref 416)]) (fun i _=>[(416,.own 1 (ints (gU l c (ws.take i))))]) (fun _ _=>True) () trivial ?_ ?_ ?_
 ·simp only [go_sem,seval]<;>simp [gU,ints]
 ·intro i _ hi hdi hwi _;have hm:=ints_at ws hi;have hli:(i:Int) < (ws.length:Int):=by omega
  have hs:ints (gU l c (ws.take (i+1)))=ints (gU l c (ws.take i))++[[.int .i64 (gw ⟨3,ws[i],c⟩ l.bs)]]:=by
   rw [List.take_succ_eq_append_getElem hi];simp only [gU,ints,List.map_append,List.map_cons,List.map_nil]
  have hlen:(gU l c (ws.take i)).length=i:=by simp [gU];omega
  have cOi:=cO ⟨3,ws[i],c⟩;clear cO;simp only [go_sem,seval,ay,hdi,hm];(with_reducible and_intros)<;>first|exact .dq|omega|skip
  refine aa.pure cOi ?_;simp only [go_sem,seval,ay,hlen,hwi];(with_reducible and_intros)<;>first|exact .dq|omega|skip
  refine ah.step () hi trivial ?_;simp only [go_sem,seval,hs]
 ·intro _ hdx _;simp only [go_sem,seval,ay,hdx,List.take_length]
theorem uY (l:bq) (c:Int) (ws:List Int) (hb:l.bs.length < 2 ^ 30) (hl:ws.length < 2 ^ 30):Abs.Spec Tryz.prog 224 [] [.agg l.cells,.int .i64 c,.sl 1 (ints ws)] [] (.sl 1 (ints (gU l c ws))):=by
 refine Spec.frozen (GG l c ws hb hl) [0] rfl ?_;intro r;rcases r with _ | r<;>rfl
def gK (r:au) (ws:List Int):List Int:=ws.map fun w=>(fc r w).need
theorem D6 (r:au) (ws:List Int) (h:r.jk) (hl:ws.length < 2 ^ 30):Abs.Spec Tryz.prog 225 [] [.agg r.cells,.sl 1 (ints ws)] [.own 1 (ints (gK r ws))] (.ref 0):=by
 have cM:=fun n=>cj r n h.small
 simp only [au.cells] at cM |-;refine bg 30 2 [.tmp 4] mixed Tryz.func225 ?_;simp only [go_sem,seval,ay];refine aC.walk (S:=Unit) ws.length [1,2] [48] (fun i _=>[(6,.int .i64 i),(5,.ref 464)]) (fun i _=>[(464,.own 1 (ints (gK r (ws.take i))))]) (fun _ _=>True) () trivial ?_ ?_ ?_
 ·simp only [go_sem,seval]<;>simp [gK,ints]
 ·intro i _ hi hdi hwi _;have hm:=ints_at ws hi;have hli:(i:Int) < (ws.length:Int):=by omega
  have hs:ints (gK r (ws.take (i+1)))=ints (gK r (ws.take i))++[[.int .i64 (fc r ws[i]).need]]:=by
   rw [List.take_succ_eq_append_getElem hi];simp only [gK,ints,List.map_append,List.map_cons,List.map_nil]
  have hlen:(gK r (ws.take i)).length=i:=by simp [gK];omega
  have cMi:=cM ws[i];obtain ⟨g,hg⟩:=aL (fc r ws[i]);rw [<- hg] at cMi hs;simp only [ak.cells] at cMi;clear cM;simp only [go_sem,seval,ay,hdi,hm];(with_reducible and_intros)<;>first|exact .dq|omega|skip
  refine aa.pure cMi ?_;simp only [go_sem,seval,ay,hlen,hwi];(with_reducible and_intros)<;>first|exact .dq|omega|skip
  refine ah.step () hi trivial ?_;simp only [go_sem,seval,hs]
 ·intro _ hdx _;simp only [go_sem,seval,ay,hdx,List.take_length]
theorem sW (r:au) (ws:List Int) (h:r.jk) (hl:ws.length < 2 ^ 30):Abs.Spec Tryz.prog 225 [] [.agg r.cells,.sl 1 (ints ws)] [] (.sl 1 (ints (gK r ws))):=by
 refine Spec.frozen (D6 r ws h hl) [0] rfl ?_;intro r;rcases r with _ | r<;>rfl
theorem xy {A:Type} {no:A->Int} {n:Int} {z:A} {R:A->Prop} (hz:R z):∀ {xs:List A},(∀ x∈xs,R x)->R (eP no n z xs)
 | [],_=>hz
 | x :: r,h=>by
  simp only [eP];split
  ·exact h x (by simp)
  ·exact xy hz fun y hy=>h y (by simp [hy])
theorem O7 {r:au} (h:∀ m∈r.ms,m.cE) (n:Int):(fc r n).cE:=xy (R:=ak.cE) ⟨⟨by decide,by decide⟩,⟨by decide,by decide⟩,⟨by decide,by decide⟩⟩ h
def gS (l:bq) (c:Int) (ws:List Int):Int:=if l.okB then (if yD c ws then (if bP (az (gU l c ws)) then 0 else 1) else 3) else 14
def oB (l:bq) (c:Int) (ws:List Int):Int:=if gS l c ws=0 then az (gU l c ws) else 0
theorem sZ (l:bq) (c:Int) (ws:List Int) (hb:l.bs.length < 2 ^ 30) (hr:∀ b∈l.bs,b.cE) (hl:ws.length < 2 ^ 29):Abs.Spec Tryz.prog 200 [] [.agg l.cells,.int .i64 c,.sl 1 (ints ws)] [] (.bI [.int .i64 (oB l c ws),.int .i64 (gS l c ws)]):=by
 have c1:=gX l hb hr;have c2:=uB c ws (by omega);have c3:=uY l c ws hb (by omega);have c4:=ct (gU l c ws) (fun n hn=>by obtain ⟨w,_,rfl⟩:=List.mem_map.1 hn;exact Mp hr) (by simp [gU];omega);simp only [bq.cells] at c1 c3 |-;refine bg 28 3 [.tmp 6,.tmp 7] mixed Tryz.func200 ?_;simp only [go_sem,seval];(with_reducible and_intros)<;>first|exact .dq|omega|skip
 refine aa.pure c1 ?_;cases b1:l.okB
 ·have e:gS l c ws=14:=by simp [gS,b1]
  simp only [go_sem,seval,oB,e]<;>simp
 simp only [go_sem,seval];(with_reducible and_intros)<;>first|exact .dq|omega|skip
 refine aa.pure c2 ?_;cases b2:yD c ws
 ·have e:gS l c ws=3:=by simp [gS,b1,b2]
  simp only [go_sem,seval,oB,e]<;>simp
 have e:gS l c ws=if bP (az (gU l c ws)) then 0 else 1:=by simp [gS,b1,b2]
 simp only [oB];rw [e];simp only [go_sem,seval];(with_reducible and_intros)<;>first|exact .dq|omega|skip
 refine aa.pure c3 ?_;simp only [go_sem,seval];(with_reducible and_intros)<;>first|exact .dq|omega|skip
 refine aa.pure c4 ?_;cases q:bP (az (gU l c ws))<;>simp only [go_sem,seval,q,addN]<;>simp
def jG (r:au) (ws:List Int):Int:=if r.okB then (if yD 0 ws then (if bP (az (gK r ws)) then 0 else 1) else 3) else 14
def sy (r:au) (ws:List Int):Int:=if jG r ws=0 then az (gK r ws) else 0
theorem uN (r:au) (ws:List Int) (h:r.jk) (hr:∀ m∈r.ms,m.cE) (hl:ws.length < 2 ^ 29):Abs.Spec Tryz.prog 202 [] [.agg r.cells,.sl 1 (ints ws)] [] (.bI [.int .i64 (sy r ws),.int .i64 (jG r ws)]):=by
 have c1:=dK r h.small;have c2:=uB 0 ws (by omega);have c3:=sW r ws h (by omega);have c4:=ct (gK r ws) (fun n hn=>by obtain ⟨w,_,rfl⟩:=List.mem_map.1 hn;exact (O7 hr w).2.2) (by simp [gK];omega);simp only [au.cells] at c1 c3 |-;refine bg 24 2 [.tmp 4,.tmp 5] mixed Tryz.func202 ?_;simp only [go_sem,seval];(with_reducible and_intros)<;>first|exact .dq|omega|skip
 refine aa.pure c1 ?_;cases b1:r.okB
 ·have e:jG r ws=14:=by simp [jG,b1]
  simp only [go_sem,seval,sy,e]<;>simp
 simp only [go_sem,seval];(with_reducible and_intros)<;>first|exact .dq|omega|skip
 refine aa.pure c2 ?_;cases b2:yD 0 ws
 ·have e:jG r ws=3:=by simp [jG,b1,b2]
  simp only [go_sem,seval,sy,e]<;>simp
 have e:jG r ws=if bP (az (gK r ws)) then 0 else 1:=by simp [jG,b1,b2]
 simp only [sy];rw [e];simp only [go_sem,seval];(with_reducible and_intros)<;>first|exact .dq|omega|skip
 refine aa.pure c3 ?_;simp only [go_sem,seval];(with_reducible and_intros)<;>first|exact .dq|omega|skip
 refine aa.pure c4 ?_;cases q:bP (az (gK r ws))<;>simp only [go_sem,seval,q,addN]<;>simp
def sO (k c:Int) (ws ps:List Int) (i:Nat):List aW:=[⟨k,ws.getD i 0,c,-(ps.getD i 0)⟩]
def Ds (k c n:Int) (ws ps:List Int):List aW:=⟨6,0,c,n⟩ :: oq (sO k c ws ps) ps.length
def sV (k c n all:Int) (ws gs:List Int):Int:=if within n 0 4611686018427387904 then (if all < n then 13 else mP (Ds k c n ws (fL n gs))) else 3
def sN (k c n all:Int) (ws gs:List Int):List aW:=if sV k c n all ws gs=0 then iF (Ds k c n ws (fL n gs)) else []
theorem uD (k c n all:Int) (ws gs:List Int) (he:gs.length=ws.length) (hl:ws.length < 2 ^ 27):Abs.Spec Tryz.prog 227 [] [.int .i64 k,.int .i64 c,.int .i64 n,.int .i64 all,.sl 1 (ints ws),.sl 1 (ints gs)] [] (.bI [.sl 4 ((sN k c n all ws gs).map aW.cells),.int .i64 (sV k c n all ws gs)]):=by
 have c1:=fC n 0 4611686018427387904;have c2:=uW n gs (by omega);have hpl:=qW n gs;have hpr:=Lg n gs
 have e0:within n 0 4611686018427387904=true -> ¬ all < n->sN k c n all ws gs=iF (Ds k c n ws (fL n gs)):=fun h1 h2=>by
  simp only [sN,sV,h1,if_neg h2,if_true];split
  ·rfl
  ·rename_i h;simp [iF,h]
 refine bg 61 6 [.tmp 12,.tmp 13] mixed Tryz.func227 ?_;simp only [go_sem,seval];(with_reducible and_intros)<;>first|exact .dq|omega|skip
 refine aa.pure c1 ?_;cases b1:within n 0 4611686018427387904
 ·have e:sV k c n all ws gs=3:=by simp [sV,b1]
  simp only [go_sem,seval,sN,e]<;>simp
 by_cases b2:all < n
 ·have d:decide (all < n)=true:=decide_eq_true b2;have e:sV k c n all ws gs=13:=by simp [sV,b1,b2]
  simp only [go_sem,seval,d,sN,e]<;>simp
 have d2:decide (all < n)=false:=decide_eq_false b2;have e:sV k c n all ws gs=mP (Ds k c n ws (fL n gs)):=by simp [sV,b1,b2]
 rw [e,e0 b1 b2];clear e e0 c1;obtain ⟨ps,hps⟩:=aL (fL n gs);rw [<- hps] at c2 hpl hpr |-;have hgl:=kE (f:=sO k c ws ps) (m:=1) (fun i=>by simp [sO]) ps.length;have cJ:=mg (Ds k c n ws ps) (by simp only [Ds,List.length_cons];omega);simp only [go_sem,seval,d2];(with_reducible and_intros)<;>first|exact .dq|omega|skip
 refine aa.pure c2 ?_;simp only [go_sem,seval,ay];(with_reducible and_intros)<;>first|exact .dq|omega|skip
 refine aC.walk (S:=Unit) ps.length [0,1,4,14] [] (fun i _=>[(17,.int .i64 i),(16,.ref 912)]) (fun i _=>[(912,.own 4 ((⟨6,0,c,n⟩ :: oq (sO k c ws ps) i:List aW).map aW.cells))]) (fun _ _=>True) () trivial ?_ ?_ ?_
 ·simp only [go_sem,seval,kg]<;>simp
 ·intro i _ hi hdi hwi _;have hm:=ints_at ps hi;have hiw:i < ws.length:=by omega
  have hmw:=ints_at ws hiw;have hp:=hpr ps[i] (List.getElem_mem hi);have hw:IntKind.wrap .i64 (0-ps[i]) = -ps[i]:=by rw [bz (by omega) (by omega)];omega
  have hs:(⟨6,0,c,n⟩ :: oq (sO k c ws ps) (i+1):List aW)=(⟨6,0,c,n⟩ :: oq (sO k c ws ps) i)++[⟨k,ws[i],c,-ps[i]⟩]:=by
   rw [iI];simp [sO,hi,hiw]
  have hll:=kE (f:=sO k c ws ps) (m:=1) (fun i=>by simp [sO]) i;obtain ⟨L,hL⟩:=aL ((⟨6,0,c,n⟩ :: oq (sO k c ws ps) i:List aW));have hLl:L.length<=i+1:=by rw [hL,List.length_cons];omega
  rw [<- hL] at hs |-;have hlw:(i:Int) < (ws.length:Int):=by omega
  have hlp:(i:Int) < (ps.length:Int):=by omega
  clear cJ;simp only [go_sem,seval,ay,hdi,hm,hmw,hw,hwi,aG];(with_reducible and_intros)<;>first|exact .dq|omega|skip
  refine ah.step () hi trivial ?_;simp only [go_sem,seval];have hsm:=congrArg (List.map aW.cells) hs;simp only [List.map_append,List.map_cons,List.map_nil] at hsm |-;exact hsm.symm
 ·intro _ hdx _;simp only [go_sem,seval,ay,hdx];(with_reducible and_intros)<;>first|exact .dq|omega|skip
  refine aa.gen [912] [] false (by simp) ?_;simp only [go_sem,seval];refine aY.intro cJ ?_;simp only [go_sem,seval]
def JS (l:bq) (c n:Int) (ws:List Int):Int:=if gS l c ws=0 then sV 3 c n (oB l c ws) ws (gU l c ws) else gS l c ws
def zo (l:bq) (c n:Int) (ws:List Int):List aW:=if gS l c ws=0 then sN 3 c n (oB l c ws) ws (gU l c ws) else []
theorem Gs (l:bq) (c n:Int) (ws:List Int) (hb:l.bs.length < 2 ^ 30) (hr:∀ b∈l.bs,b.cE) (hl:ws.length < 2 ^ 27):Abs.Spec Tryz.prog 205 [] [.agg l.cells,.int .i64 c,.int .i64 n,.sl 1 (ints ws)] [] (.bI [.sl 4 ((zo l c n ws).map aW.cells),.int .i64 (JS l c n ws)]):=by
 have c1:=sZ l c ws hb hr (by omega);have c2:=uY l c ws hb (by omega);have c3:=uD 3 c n (oB l c ws) ws (gU l c ws) (by simp [gU]) hl;simp only [bq.cells] at c1 c2 |-;simp only [zo,JS];refine bg 33 4 [.tmp 8,.tmp 9] mixed Tryz.func205 ?_;simp only [go_sem,seval];(with_reducible and_intros)<;>first|exact .dq|omega|skip
 refine aa.pure c1 ?_
 by_cases b1:gS l c ws=0
 case neg =>
  have d:(gS l c ws==0)=false:=by simpa using b1
  simp only [go_sem,seval,bne,d,if_neg b1]<;>simp
 rw [b1,if_pos rfl,if_pos rfl];simp only [go_sem,seval];(with_reducible and_intros)<;>first|exact .dq|omega|skip
 refine aa.pure c2 ?_;simp only [go_sem,seval];(with_reducible and_intros)<;>first|exact .dq|omega|skip
 refine aa.pure c3 ?_;simp only [go_sem,seval]
def wq (r:au) (c n:Int) (ws:List Int):Int:=if jG r ws=0 then (if within c 0 2 then sV 2 c n (sy r ws) ws (gK r ws) else 3) else jG r ws
def oE (r:au) (c n:Int) (ws:List Int):List aW:=if jG r ws=0&&within c 0 2 then sN 2 c n (sy r ws) ws (gK r ws) else []
theorem Dc (r:au) (c n:Int) (ws:List Int) (h:r.jk) (hr:∀ m∈r.ms,m.cE) (hl:ws.length < 2 ^ 27):Abs.Spec Tryz.prog 206 [] [.agg r.cells,.int .i64 c,.int .i64 n,.sl 1 (ints ws)] [] (.bI [.sl 4 ((oE r c n ws).map aW.cells),.int .i64 (wq r c n ws)]):=by
 have c1:=uN r ws h hr (by omega);have c2:=sW r ws h (by omega);have c3:=uD 2 c n (sy r ws) ws (gK r ws) (by simp [gK]) hl;have c4:=fB c;simp only [au.cells] at c1 c2 |-;simp only [oE,wq];refine bg 34 4 [.tmp 8,.tmp 9] mixed Tryz.func206 ?_;simp only [go_sem,seval];(with_reducible and_intros)<;>first|exact .dq|omega|skip
 refine aa.pure c1 ?_
 by_cases b1:jG r ws=0
 case neg =>
  have d:(jG r ws==0)=false:=by simpa using b1
  simp only [go_sem,seval,bne,d,if_neg b1]<;>simp [b1]
 rw [b1,if_pos rfl];simp only [go_sem,seval];(with_reducible and_intros)<;>first|exact .dq|omega|skip
 refine aa.pure c4 ?_;cases b2:within c 0 2
 ·simp only [go_sem,seval]<;>simp
 simp only [go_sem,seval];(with_reducible and_intros)<;>first|exact .dq|omega|skip
 refine aa.pure c2 ?_;simp only [go_sem,seval];(with_reducible and_intros)<;>first|exact .dq|omega|skip
 refine aa.pure c3 ?_;simp only [go_sem,seval]<;>simp
def rR (ws ps:List Int) (i:Nat):List dP:=if 0 < ps.getD i 0 then [⟨ws.getD i 0,ps.getD i 0,0⟩] else []
def Ii (ws ps:List Int):List dP:=oq (rR ws ps) ps.length
def nZ (b:aF) (w n k:Int):Int:=if b.okB then (if within k 0 1099511627776 then (if az (pN (posOf w n b.qs).aV n b.qs) < k then 13 else 0) else 3) else 14
def n9 (b:aF) (w n k:Int):List dP:=if nZ b w n k=0 then Ii (xR (posOf w n b.qs).aV n b.qs) (fL k (pN (posOf w n b.qs).aV n b.qs)) else []
theorem xY {A:Type} (p:A->Bool) (f g:A->Int):∀ l:List A,(pick p f l).length=(pick p g l).length
 | []=>rfl
 | x :: r=>by
  have:=xY p f g r;simp only [pick,List.flatMap_cons,List.length_append] at this |-;split<;>simp [this]
theorem yu {B:Int} (hB:0<=B):∀ {l:List Int},(∀ x∈l,0<=x/\x<=B)->0<=az l/\az l<=B*l.length
 | [],_=>by simp [az]
 | x :: r,h=>by
  have h1:=h x (by simp);have h2:=yu hB (l:=r) fun y hy=>h y (by simp [hy])
  simp only [az,List.length_cons];push_cast;rw [Int.mul_add];omega
theorem IQ (b:aF) (w n k:Int) (hb:b.small) (hr:∀ p∈b.qs,p.cE) (hq:b.qs.length < 2 ^ 20):Abs.Spec Tryz.prog 222 [] [.agg b.cells,.agg [.int .i64 w,.int .i64 n],.int .i64 k] [.own 3 ((n9 b w n k).map dP.cells)] (.bI [.ref 0,.int .i64 (nZ b w n k)]):=by
 have c1:=gR b hb hr;have c2:=fC k 0 1099511627776;simp only [aF.cells] at c1 |-;refine bg 73 3 [.tmp 6,.tmp 7] mixed Tryz.func222 ?_;simp only [go_sem,seval];(with_reducible and_intros)<;>first|exact .dq|omega|skip
 refine aa.pure c1 ?_;cases b1:b.okB
 ·have e:nZ b w n k=14:=by simp [nZ,b1]
  simp only [go_sem,seval,n9,e]<;>simp
 simp only [go_sem,seval];(with_reducible and_intros)<;>first|exact .dq|omega|skip
 refine aa.pure c2 ?_;cases b2:within k 0 1099511627776
 ·have e:nZ b w n k=3:=by simp [nZ,b1,b2]
  simp only [go_sem,seval,n9,e]<;>simp
 have e:nZ b w n k=if az (pN (posOf w n b.qs).aV n b.qs) < k then 13 else 0:=by simp [nZ,b1,b2]
 have hpn:=fun p hp=>Bb (Ba b1 p hp)
 have c3:=Bd b w n hb (fun p hp=>⟨(hpn p hp).1,(hpn p hp).2.1⟩);have hsame:(xR (posOf w n b.qs).aV n b.qs).length=(pN (posOf w n b.qs).aV n b.qs).length:=xY _ _ _ _;have hnl:(pN (posOf w n b.qs).aV n b.qs).length<=b.qs.length:=bY _ _ _;have hnr:∀ x∈pN (posOf w n b.qs).aV n b.qs,0<=x/\x<=1099511627776:=kM fun p hp=>by have:=hpn p hp;omega
 simp only [n9];rw [e];obtain ⟨ns,hns⟩:=aL (pN (posOf w n b.qs).aV n b.qs);obtain ⟨ws,hws⟩:=aL (xR (posOf w n b.qs).aV n b.qs);rw [<- hns] at hsame hnl hnr c3 |-;rw [<- hws] at hsame c3 |-;simp only [aF.cells] at c3;clear hns hws e c1 c2;simp only [go_sem,seval];(with_reducible and_intros)<;>first|exact .dq|omega|skip
 refine aa.pure c3 ?_;clear c3;simp only [go_sem,seval,ay];(with_reducible and_intros)<;>first|exact .dq|omega|skip
 refine aC.walk (S:=Unit) ns.length [2,8,9] [] (fun i _=>[(11,.int .i64 i),(10,.int .i64 (az (ns.take i)))]) (fun _ _=>[]) (fun _ _=>True) () trivial ?_ ?_ ?_
 ·simp only [go_sem,seval]<;>simp [az]
 ·intro i _ hi hdi hwi _;have hm:=ints_at ns hi;have hs:az (ns.take (i+1))=az (ns.take i)+ns[i]:=by rw [List.take_succ_eq_append_getElem hi,sU]
  have h1:=yu (B:=1099511627776) (by decide) (l:=ns.take i) fun x hx=>hnr x (List.mem_of_mem_take hx)
  have h2:=hnr ns[i] (List.getElem_mem hi);have hlt:(ns.take i).length=i:=by simp;omega
  obtain ⟨S,hS⟩:=aL (az (ns.take i));rw [<- hS] at hs h1 |-;rw [hlt] at h1;have hw:IntKind.wrap .i64 (S+ns[i])=S+ns[i]:=bz (by omega) (by omega);have hli:(i:Int) < (ns.length:Int):=by omega
  simp only [go_sem,seval,ay,hdi,hm,hw,hwi];(with_reducible and_intros)<;>first|exact .dq|omega|skip
  refine ah.step () hi trivial ?_;simp only [go_sem,seval,hs]
 intro _ hdx _;rw [List.take_length]
 by_cases b3:az ns < k
 ·have d:decide (az ns < k)=true:=decide_eq_true b3;simp only [go_sem,seval,ay,hdx,d,if_pos b3]<;>simp
 have d3:decide (az ns < k)=false:=decide_eq_false b3;have c4:=uW k ns (by omega);have hpl:=qW k ns;simp only [if_neg b3];obtain ⟨ps,hps⟩:=aL (fL k ns);rw [<- hps] at c4 hpl |-;simp only [go_sem,seval,ay,hdx,d3];(with_reducible and_intros)<;>first|exact .dq|omega|skip
 refine aa.pure c4 ?_;clear c4 hdx;simp only [go_sem,seval,ay,if_true];(with_reducible and_intros)<;>first|exact .dq|omega|skip
 refine aC.walk (S:=Unit) ps.length [8,12] [] (fun i _=>[(15,.int .i64 i),(14,.ref 1152)]) (fun i _=>[(1152,.own 3 ((oq (rR ws ps) i).map dP.cells))]) (fun _ _=>True) () trivial ?_ ?_ ?_
 ·simp only [go_sem,seval,kg]<;>simp
 ·intro i _ hi hdi hwi _;have hiw:i < ws.length:=by omega
  have hm:=ints_at ps hi;have hmw:=ints_at ws hiw;have hgp:ps.getD i 0=ps[i]:=by simp [hi]
  have hgw:ws.getD i 0=ws[i]:=by simp [hiw]
  have hs:=iI (rR ws ps) i;have hll:=kE (f:=rR ws ps) (m:=1) (fun i=>by unfold rR;split<;>simp) i;obtain ⟨L,hL⟩:=aL (oq (rR ws ps) i);rw [<- hL] at hs hll |-;simp only [rR,hgp,hgw] at hs;have hlw:(i:Int) < (ws.length:Int):=by omega
  have hlp:(i:Int) < (ps.length:Int):=by omega
  by_cases q:0 < ps[i]
  ·have d:decide (0 < ps[i])=true:=decide_eq_true q;rw [if_pos q] at hs;simp only [go_sem,seval,ay,hdi,hm,d,hmw,hwi,aG];(with_reducible and_intros)<;>first|exact .dq|omega|skip
   refine ah.step () hi trivial ?_;simp only [go_sem,seval,hs]<;>simp
  ·have d:decide (0 < ps[i])=false:=decide_eq_false q;rw [if_neg q,List.append_nil] at hs;simp only [go_sem,seval,ay,hdi,hm,d,hwi];(with_reducible and_intros)<;>first|exact .dq|omega|skip
   refine ah.step () hi trivial ?_;simp only [go_sem,seval,hs]
 ·intro _ hdx _;simp only [go_sem,seval,ay,hdx,Ii]
theorem RT {l:bq} (h:l.okB=true) (w c:Int):0<=gw ⟨3,w,c⟩ l.bs:=by
 simp only [bq.okB,bZ] at h
 have hk:∀ b∈l.bs,jZ b=true:=fun b hb=>by
  obtain ⟨i,hi,rfl⟩:=List.mem_iff_getElem.1 hb;have:=List.all_eq_true.1 h.1.2 i (List.mem_range.2 hi);rcases Nat.eq_zero_or_pos i with rfl | hp
  ·rwa [jN hi] at this
  ·obtain ⟨j,rfl⟩:∃ j,i=j+1:=⟨i-1,by omega⟩
   rw [iJ hi,bZ] at this;exact this.1
 clear h;generalize l.bs=bs at hk
 induction bs with
 | nil=>simp [gw]
 | cons b r ih =>
  simp only [gw];split
  ·rename_i hb;have h1:=hk b (by simp);simp only [SN,bZ,beq_iff_eq] at hb;simp only [jZ,bZ,Bool.not_eq_true',decide_eq_false_iff_not] at h1
   have hf:b.bH.floor=0:=by
    have:=Ti b.bH;rw [h1.1,Bool.true_and] at this;have hk3:(b.bH.kind==3)=true:=by simp [bp.bH,hb.1]
    rw [hk3,Bool.true_or] at this;simpa using this
   rw [hf] at h1;omega
  ·exact ih fun b hb=>hk b (by simp [hb])
def xG (l:bq) (c:Int) (m:ak):Int:=max (m.need-gw ⟨3,m.no,c⟩ l.bs) 0
def xH (l:bq) (c:Int) (m:ak):Int:=min (xG l c m) (max (gw ⟨2,m.no,c⟩ l.bs) 0)
def iM (l:bq) (c:Int) (m:ak):List aW:=if m.state==1 then bN ⟨2,m.no,c⟩ ⟨3,m.no,c⟩ (xH l c m) else []
def sM (l:bq) (c:Int) (m:ak):List aN:=if m.state==1&&decide (xH l c m < xG l c m) then [⟨m.no,c,xG l c m-xH l c m⟩] else []
def RF (l:bq) (r:au) (c:Int):Bool:=(l.okB&&r.okB)&&within c 0 2
def iZ (l:bq) (r:au) (c:Int):Int:=if l.okB&&r.okB then (if within c 0 2 then mP (r.ms.flatMap (iM l c)) else 3) else 14
def fk (l:bq) (r:au) (c:Int):List aW:=if RF l r c then iF (r.ms.flatMap (iM l c)) else []
def iC (l:bq) (r:au) (c:Int):List aN:=if RF l r c then r.ms.flatMap (sM l c) else []
theorem V3 {r:au} (h:r.okB=true):∀ m∈r.ms,m.ok=true:=by
 simp only [au.okB,bZ] at h;exact fun m hm=>qy h.1.1 m hm
theorem D2 (l:bq) (r:au) (c:Int) (hb:l.bs.length < 2 ^ 30) (hr:∀ b∈l.bs,b.cE) (h:r.jk) (hm:r.ms.length < 2 ^ 27):Abs.Spec Tryz.prog 151 [] [.agg l.cells,.agg r.cells,.int .i64 c] [.own 3 ((iC l r c).map aN.cells)] (.bI [.sl 4 ((fk l r c).map aW.cells),.ref 0,.int .i64 (iZ l r c)]):=by
 have c1:=gX l hb hr;have c2:=dK r h.small;have c3:=fB c;have cO:=fun a=>j0 l a hb
 have cM:=fun a b n=>ij a b n
 have hO:∀ a,l.okB=true->bP (gw a l.bs)=true:=fun a h=>yp h a
 have hF:=fun (h:l.okB=true) w=>RT h w c
 have hJl:=fm (f:=iM l c) (m:=2) (fun m=>by unfold iM;split<;>simp [bN]) r.ms;have cJ:=mg (r.ms.flatMap (iM l c)) (by omega);simp only [bq.cells,aH.cells] at c1 cO cM |-;simp only [au.cells] at c2 |-;refine bg 93 3 [.tmp 6,.tmp 7,.tmp 8] mixed Tryz.func151 ?_;simp only [go_sem,seval];(with_reducible and_intros)<;>first|exact .dq|omega|skip
 refine aa.pure c1 ?_;cases b1:l.okB
 ·have e:iZ l r c=14:=by simp [iZ,b1]
  have e1:fk l r c=[]:=by simp [fk,RF,b1]
  have e2:iC l r c=[]:=by simp [iC,RF,b1]
  simp only [go_sem,seval,e,e1,e2]<;>simp
 simp only [go_sem,seval];(with_reducible and_intros)<;>first|exact .dq|omega|skip
 refine aa.pure c2 ?_;cases b2:r.okB
 ·have e:iZ l r c=14:=by simp [iZ,b2]
  have e1:fk l r c=[]:=by simp [fk,RF,b2]
  have e2:iC l r c=[]:=by simp [iC,RF,b2]
  simp only [go_sem,seval,e,e1,e2]<;>simp
 simp only [go_sem,seval];(with_reducible and_intros)<;>first|exact .dq|omega|skip
 refine aa.pure c3 ?_;cases b3:within c 0 2
 ·have e:iZ l r c=3:=by simp [iZ,b1,b2,b3]
  have e1:fk l r c=[]:=by simp [fk,RF,b3]
  have e2:iC l r c=[]:=by simp [iC,RF,b3]
  simp only [go_sem,seval,e,e1,e2]<;>simp
 have e:iZ l r c=mP (r.ms.flatMap (iM l c)):=by simp [iZ,b1,b2,b3]
 have e1:fk l r c=iF (r.ms.flatMap (iM l c)):=by simp [fk,RF,b1,b2,b3]
 have e2:iC l r c=r.ms.flatMap (sM l c):=by simp [iC,RF,b1,b2,b3]
 rw [e,e1,e2];have hO:=fun a=>hO a b1
 have hF:=hF b1;have hmo:=V3 b2;clear e e1 e2 c1 c2 c3;simp only [go_sem,seval,aG];(with_reducible and_intros)<;>first|exact .dq|omega|skip
 refine aC.walk (S:=Unit) r.ms.length [2,3,4] [64,80] (fun i _=>[(11,.int .i64 i),(9,.ref 1152),(10,.ref 1360)]) (fun i _=>[(1152,.own 4 (((r.ms.take i).flatMap (iM l c)).map aW.cells)),(1360,.own 3 (((r.ms.take i).flatMap (sM l c)).map aN.cells))]) (fun _ _=>True) () trivial ?_ ?_ ?_
 ·simp only [go_sem,seval]<;>simp
 ·intro i _ hi hdi hwi _;have hm:=aD (c:=ak.cells) r.ms hi;have hli:(i:Int) < (r.ms.length:Int):=by omega
  have hlt:(r.ms.take i).length=i:=by simp;omega
  have hs1:=gl (iM l c) hi;have hs2:=gl (sM l c) hi;have hl1:=fm (f:=iM l c) (m:=2) (fun m=>by unfold iM;split<;>simp [bN]) (r.ms.take i);have hl2:=fm (f:=sM l c) (m:=1) (fun m=>by unfold sM;split<;>simp) (r.ms.take i);have hok:=hmo _ (List.getElem_mem hi);obtain ⟨L,hL⟩:=aL ((r.ms.take i).flatMap (iM l c));obtain ⟨M,hM⟩:=aL ((r.ms.take i).flatMap (sM l c));obtain ⟨x,hx⟩:=aL (r.ms[i]);rw [<- hx] at hs1 hs2 hm hok;rw [<- hL] at hs1 hl1;rw [<- hM] at hs2 hl2;rw [<- hL,<- hM];simp only [ak.ok,bP,bZ,decide_eq_true_eq] at hok;simp only [ak.cells] at hm;clear cJ hL hM hmo;cases q1:x.state==1
  ·simp only [iM,sM,q1,Bool.false_and,fY,if_false,List.append_nil] at hs1 hs2;simp only [go_sem,seval,aG,hdi,hm,bne,q1,hwi];(with_reducible and_intros)<;>first|exact .dq|omega|skip
   refine ah.step () hi trivial ?_;simp only [go_sem,seval,hs1,hs2]
  have h1:=cm.1 (hO ⟨3,x.no,c⟩);have h2:=cm.1 (hO ⟨2,x.no,c⟩);have h3:=hF x.no;have cF:=cO ⟨3,x.no,c⟩;have cC:=cO ⟨2,x.no,c⟩;have cMv:=cM ⟨2,x.no,c⟩ ⟨3,x.no,c⟩ (xH l c x);have hla:xG l c x=max (x.need-gw ⟨3,x.no,c⟩ l.bs) 0:=rfl;have hfi:xH l c x=min (xG l c x) (max (gw ⟨2,x.no,c⟩ l.bs) 0):=rfl;simp only [iM,sM,q1,Bool.true_and,if_true] at hs1 hs2;obtain ⟨A,hA⟩:=aL (xG l c x);obtain ⟨F,hFd⟩:=aL (xH l c x);obtain ⟨f,hf⟩:=aL (gw ⟨3,x.no,c⟩ l.bs);obtain ⟨g,hg⟩:=aL (gw ⟨2,x.no,c⟩ l.bs);rw [<- hA,<- hFd] at hs2;rw [<- hFd] at hs1 cMv;rw [<- hA,<- hf] at hla;rw [<- hFd,<- hA,<- hg] at hfi;rw [<- hf] at cF h1 h3;rw [<- hg] at cC h2;have hw1:IntKind.wrap .i64 (x.need-f)=x.need-f:=bz (by omega) (by omega);have hw2:IntKind.wrap .i64 (A-F)=A-F:=bz (by omega) (by omega);have eA:max (x.need-f) 0=A:=hla.symm;have eF:min A (max g 0)=F:=hfi.symm;have hml:(bN ⟨2,x.no,c⟩ ⟨3,x.no,c⟩ F).length=2:=rfl;obtain ⟨V,hV⟩:=aL (bN ⟨2,x.no,c⟩ ⟨3,x.no,c⟩ F);rw [<- hV] at hs1 cMv hml;clear cO cM hA hFd hf hg hV hO hF;simp only [go_sem,seval,aG,hdi,hm,bne,q1];(with_reducible and_intros)<;>first|exact .dq|omega|skip
  refine aa.pure cF ?_;simp only [go_sem,seval,hw1,eA];(with_reducible and_intros)<;>first|exact .dq|omega|skip
  refine aa.pure cC ?_;simp only [go_sem,seval,eF];(with_reducible and_intros)<;>first|exact .dq|omega|skip
  refine aa.pure cMv ?_
  by_cases q2:F < A
  ·have d:decide (F < A)=true:=decide_eq_true q2;rw [d,if_pos rfl] at hs2;simp only [go_sem,seval,d,hw2,hwi,aG,hml];(with_reducible and_intros)<;>first|exact .dq|omega|skip
   refine ah.step () hi trivial ?_;simp only [go_sem,seval,hs1,hs2]<;>simp
  ·have d:decide (F < A)=false:=decide_eq_false q2;rw [d,if_neg (by simp),List.append_nil] at hs2;simp only [go_sem,seval,d,hwi,aG,hml];(with_reducible and_intros)<;>first|exact .dq|omega|skip
   refine ah.step () hi trivial ?_;simp only [go_sem,seval,hs1,hs2]<;>simp
 ·intro _ hdx _;simp only [go_sem,seval,aG,hdx,List.take_length];(with_reducible and_intros)<;>first|exact .dq|omega|skip
  refine aa.gen [1152] [] false (by simp) ?_;simp only [go_sem,seval];refine aY.intro cJ ?_;simp only [go_sem,seval]
theorem Du (l:bq) (r:au) (c:Int) (hb:l.bs.length < 2 ^ 30) (hr:∀ b∈l.bs,b.cE) (h:r.jk) (hm:r.ms.length < 2 ^ 27):Abs.Spec Tryz.prog 151 [] [.agg l.cells,.agg r.cells,.int .i64 c] [] (.bI [.sl 4 ((fk l r c).map aW.cells),.sl 3 ((iC l r c).map aN.cells),.int .i64 (iZ l r c)]):=by
 refine Spec.frozen (D2 l r c hb hr h hm) [0] rfl ?_;intro r;rcases r with _ | r<;>rfl
theorem yI (k w c:Int):Abs.Spec Tryz.prog 198 [] [.int .i64 k,.int .i64 w,.int .i64 c] [] (.agg [.int .i64 k,.int .i64 w,.int .i64 c]):=by
 refine bg 11 3 [.cell 6 46] mixed Tryz.func198 ?_;simp only [go_sem,seval]
 all_goals (with_reducible and_intros)<;>first|exact .dq|omega|skip
theorem rW (b:aF) (g:List aA) (hb:b.small) (hr:∀ p∈b.qs,p.cE) (hg:g.length < 2 ^ 29):Abs.Spec Tryz.prog 182 [] [.agg b.cells,.sl 4 (g.map aA.cells)] [] (.bI [.agg (so b g).cells,.int .i64 (jh b g)]):=by
 refine Spec.frozen (qR b g hb hr hg) [0,1] rfl ?_;intro r;rcases r with _ | _ | r<;>rfl
def Kh (s:af) (w:Int):Int:=if br s then (if bC s.aj w=0 then 10 else if bC s.aj w=2 then 0 else 14) else 14
theorem Kn (s:af) (w:Int) (hs:s.small) (hr:s.cE):Abs.Spec Tryz.prog 196 [] [.agg s.cells,.int .i64 w] [] (.int .i64 (Kh s w)):=by
 have c1:=gy s hs hr;have c2:=l9 s w hs.aj.small;simp only [af.cells,Kh] at c1 c2 |-;obtain ⟨t,ht⟩:=aL (bC s.aj w);rw [<- ht] at c2 |-;refine bg 15 2 [.tmp 4] mixed Tryz.func196 ?_;simp only [go_sem,seval];(with_reducible and_intros)<;>first|exact .dq|omega|skip
 refine aa.pure c1 ?_;cases b1:br s
 ·simp only [go_sem,seval,b1]
 simp only [go_sem,seval,b1];(with_reducible and_intros)<;>first|exact .dq|omega|skip
 refine aa.pure c2 ?_
 by_cases b2:t=0
 ·rw [b2];simp only [go_sem,seval]
  all_goals (with_reducible and_intros)<;>first|exact .dq|omega|skip
 by_cases b3:t=2
 ·rw [b3];simp only [go_sem,seval]
  all_goals (with_reducible and_intros)<;>first|exact .dq|omega|skip
 have d2:(t==0)=false:=by simpa using b2
 have d3:(t==2)=false:=by simpa using b3
 rw [if_neg b2,if_neg b3];simp only [go_sem,seval,d2,d3]
 all_goals (with_reducible and_intros)<;>first|exact .dq|omega|skip
def C2 (s:af) (w n:Int) (b:bu):Bool:=(b.who==w&&b.inst==n)&&bC s.aj b.src==1
def gG (s:af) (w n:Int) (l:List bu):List bu:=l.flatMap fun b=>if C2 s w n b then [b] else []
def dS (p:Int) (f:dP):dP:={ f with aR:=p }
def mu (b:aF) (w n:Int) (long:Bool) (f:List dP):aF × Int:=if j4 f=0 then (so b (kU w n long f),jh b (kU w n long f)) else (b,j4 f)
def qt (b:aF) (w n p:Int) (long:Bool) (rest:Int):aF × Int:=if nZ b w n rest=0 then mu b w n long ((n9 b w n rest).map (dS p)) else (b,nZ b w n rest)
def nO (s:af) (b:aF) (w n q:Int):aF × Int:=
 if n5 (aT s.aj n) then
  (if pW q (gG s w n s.aX)=0 then
   (if (mu b w n (decide (0 < q)) (jS q (gG s w n s.aX)).1).2=0/\(jS q (gG s w n s.aX)).2≠0 then
    qt (mu b w n (decide (0 < q)) (jS q (gG s w n s.aX)).1).1 w n (dU (aT s.aj n)) (decide (0 < q)) (jS q (gG s w n s.aX)).2
   else mu b w n (decide (0 < q)) (jS q (gG s w n s.aX)).1)
  else (b,pW q (gG s w n s.aX)))
 else (b,20)
structure aF.fZ (b:aF):Prop where
 small:b.small
 short:b.qs.length < 2 ^ 20
 cE:∀ p∈b.qs,p.cE
 ok:∀ p∈b.qs,(-1099511627776<=p.aV/\p.aV<=1099511627776)/\bP p.cost=true
theorem Fa {b:aF} (hb:b.fZ) (g:List aA):(so b g).fZ:=by
 unfold so;split
 ·rename_i h;have hok:=(tK h).2.2;refine ⟨⟨hb.small.1,?_⟩,?_,Md h,?_⟩
  ·have:=AF b g 16
   show (vO b g 16).length < _
   omega
  ·have:=AF b g 16
   show (vO b g 16).length < _
   omega
  ·intro p hp;obtain ⟨k,m,hk,hm,hp⟩:=wK hp;have:=CD hok hk hm;simp only [CL,within,bZ,decide_eq_true_eq] at this;unfold DS at hp;split at hp
   ·cases hp
   ·obtain rfl:=List.mem_singleton.1 hp;exact ⟨this.2.2,this.2.1⟩
 ·exact ⟨⟨by simp,by simp⟩,by simp,by simp,by simp⟩
theorem vE {b:aF} (hb:b.fZ) (w n:Int) (long:Bool) (f:List dP):(mu b w n long f).1.fZ:=by
 unfold mu;split
 ·exact Fa hb _
 ·exact hb
theorem Ld {b:aF} (hb:b.fZ) (w n p:Int) (long:Bool) (rest:Int):(qt b w n p long rest).1.fZ:=by
 unfold qt;split
 ·exact vE hb _ _ _ _
 ·exact hb
theorem Lo {s:af} {b:aF} (hb:b.fZ) (w n q:Int):(nO s b w n q).1.fZ:=by
 unfold nO;split
 ·split
  ·split
   ·exact Ld (vE hb _ _ _ _) _ _ _ _ _
   ·exact vE hb _ _ _ _
  ·exact hb
 ·exact hb
theorem Ev (w n:Int) (long:Bool) (f:List dP):(kU w n long f).length<=2*f.length:=by
 unfold kU;split
 ·exact fm (f:=ur w n long) (fun f=>by simp [ur]) f
 ·simp
theorem O3 (b:aF) (w n k:Int):(n9 b w n k).length<=b.qs.length:=by
 unfold n9;split
 ·have h1:=kE (f:=rR (xR (posOf w n b.qs).aV n b.qs) (fL k (pN (posOf w n b.qs).aV n b.qs))) (m:=1) (fun i=>by unfold rR;split<;>simp) (fL k (pN (posOf w n b.qs).aV n b.qs)).length;have h2:=qW k (pN (posOf w n b.qs).aV n b.qs);have h3:(pN (posOf w n b.qs).aV n b.qs).length<=b.qs.length:=bY _ _ _;simp only [Ii];omega
 ·simp
theorem CX (s:af) (w n:Int) (l:List bu):(gG s w n l).length<=l.length:=by
 have:=fm (f:=fun b=>if C2 s w n b then [b] else []) (m:=1) (fun b=>by split<;>simp) l;simpa [gG] using this
theorem NR (q:Int) (l:List bu):(jS q l).1.length<=l.length:=by
 unfold jS;split
 ·refine Nat.le_trans (Fy _ _) ?_;rw [Al,Cl];simp
 ·simp
theorem F8 (s:af) (b:aF) (w n q:Int) (hs:s.small) (hb:b.fZ) (hbl:s.aX.length < 2 ^ 20):Abs.Spec Tryz.prog 197 [] [.agg s.cells,.agg b.cells,.agg [.int .i64 w,.int .i64 n],.int .i64 q] [] (.bI [.agg (nO s b w n q).1.cells,.int .i64 (nO s b w n q).2]):=by
 have c1:=dc s.aj n hs.aj.small;have cS:=fun w=>l9 s w hs.aj.small
 have c2:=uQ (aT s.aj n);have ep:(if (aT s.aj n).set==0 then (aT s.aj n).aR else (aT s.aj n).set)=dU (aT s.aj n):=rfl;have eh:(!((aT s.aj n).set==0&&(aT s.aj n).aR==0))=n5 (aT s.aj n):=rfl;rw [ep,eh] at c2;obtain ⟨x,hx⟩:=aL (aT s.aj n);have hbo:=CX s w n s.aX;have c3:=Hj q (gG s w n s.aX) (by omega);have hfl:=NR q (gG s w n s.aX);obtain ⟨R,hR⟩:=aL (nO s b w n q);have hR0:=hR;simp only [nO] at hR;obtain ⟨B,hB⟩:=aL (gG s w n s.aX);rw [<- hR0];rw [<- hx] at c1 c2 hR;rw [<- hB] at c3 hfl hbo hR;obtain ⟨f,hf⟩:=aL ((jS q B).1);obtain ⟨rest,hre⟩:=aL ((jS q B).2);rw [<- hf] at c3 hfl hR;rw [<- hre] at c3 hR;have c4:=tC w n (decide (0 < q)) f (by omega);have c5:=rW b (kU w n (decide (0 < q)) f) hb.small hb.cE (by have:=Ev w n (decide (0 < q)) f;omega);obtain ⟨g,hg⟩:=aL (kU w n (decide (0 < q)) f);have hA:mu b w n (decide (0 < q)) f=if j4 f=0 then (so b g,jh b g) else (b,j4 f):=by rw [hg];rfl
 rw [hA] at hR;rw [<- hg] at c4 c5;have hb1:=Fa hb g;obtain ⟨b1,hb1d⟩:=aL (so b g);rw [<- hb1d] at hR c5 hb1;obtain ⟨p,hp⟩:=aL (dU x);rw [<- hp] at c2 hR;obtain ⟨long,hlong⟩:=aL (decide (0 < q));rw [<- hlong] at c4 hR;have c6:=IQ b1 w n rest hb1.small hb1.cE hb1.short;have hFl:=O3 b1 w n rest;have hqs:=hb1.short;have hR2:qt b1 w n p long rest=if nZ b1 w n rest=0 then mu b1 w n long ((n9 b1 w n rest).map (dS p)) else (b1,nZ b1 w n rest):=rfl
 obtain ⟨F,hF⟩:=aL (n9 b1 w n rest);rw [<- hF] at c6 hFl hR2;have c7:=tC w n long (F.map (dS p)) (by rw [aG];omega);have c8:=rW b1 (kU w n long (F.map (dS p))) hb1.small hb1.cE (by have:=Ev w n long (F.map (dS p));rw [aG] at this;omega);have hR3:mu b1 w n long (F.map (dS p))=if j4 (F.map (dS p))=0 then (so b1 (kU w n long (F.map (dS p))),jh b1 (kU w n long (F.map (dS p)))) else (b1,j4 (F.map (dS p))):=rfl
 rw [hR3] at hR2;obtain ⟨g2,hg2⟩:=aL (kU w n long (F.map (dS p)));rw [<- hg2] at c7 c8 hR2
 have hR4:R=if n5 x=true then (if pW q B=0 then (if j4 f=0 then (if jh b g=0/\rest≠0 then qt b1 w n p long rest else (b1,jh b g)) else (b,j4 f)) else (b,pW q B)) else (b,20):=by
  rw [hR];by_cases h:j4 f=0<;>simp [h]
 rw [hR2] at hR4;clear hR;have hR:=hR4;clear hR4;obtain ⟨b2,hb2⟩:=aL (so b1 g2);obtain ⟨e1,he1⟩:=aL (j4 f);obtain ⟨e2,he2⟩:=aL (jh b g);obtain ⟨e3,he3⟩:=aL (nZ b1 w n rest);obtain ⟨e4,he4⟩:=aL (j4 (F.map (dS p)));obtain ⟨e5,he5⟩:=aL (jh b1 g2);obtain ⟨e0,he0⟩:=aL (pW q B);rw [<- hb2,<- he5] at c8;rw [<- he4] at c7;rw [<- he3] at c6;rw [<- he2] at c5;rw [<- he1] at c4;rw [<- he0] at c3;rw [<- he0,<- he1,<- he2,<- he3,<- he4,<- he5,<- hb2] at hR;clear hR0 hx ep eh hf hre hA hg hb1d hp hR2 hR3 hF hg2 hb2 he1 he2 he3 he4 he5 he0 hb1;simp only [au.cells,aq.cells] at c1 c2;simp only [af.cells] at cS |-;simp only [aF.cells] at c5 c6 c8 |-;refine bg 158 4 [.cell 8 33,.tmp 9] mixed Tryz.func197 ?_;simp only [go_sem,seval];(with_reducible and_intros)<;>first|exact .dq|omega|skip
 refine aa.pure c1 ?_;simp only [go_sem,seval];(with_reducible and_intros)<;>first|exact .dq|omega|skip
 refine aa.pure c2 ?_;cases q1:n5 x
 ·rw [q1,if_neg (by simp)] at hR;rw [hR];simp only [go_sem,seval,q1]
  all_goals (with_reducible and_intros)<;>first|exact .dq|omega|skip
 rw [q1,if_pos rfl] at hR;clear c1 c2;simp only [go_sem,seval,q1];(with_reducible and_intros)<;>first|exact .dq|omega|skip
 have hcut:∀ l,gG s w n l=l.flatMap fun b=>if C2 s w n b then [b] else []:=fun l=>rfl
 refine aC.walk (S:=Unit) s.aX.length [3,4,5,6,8,12] [80,96,112,144] (fun i _=>[(15,.int .i64 i),(14,.ref 1360)]) (fun i _=>[(1360,.own 5 ((gG s w n (s.aX.take i)).map bu.cells))]) (fun _ _=>True) () trivial ?_ ?_ ?_
 ·simp only [go_sem,seval]<;>simp [gG]
 ·intro i _ hi hdi hwi _;have hm:=aD (c:=bu.cells) s.aX hi;have hli:(i:Int) < (s.aX.length:Int):=by omega
  have hs1:gG s w n (s.aX.take (i+1))=gG s w n (s.aX.take i)++_:=gl _ hi;have hl1:=CX s w n (s.aX.take i);have hlt:(s.aX.take i).length=i:=by simp;omega
  obtain ⟨y,hy⟩:=aL (s.aX[i]);obtain ⟨L,hL⟩:=aL (gG s w n (s.aX.take i));rw [<- hy] at hm hs1;rw [<- hL] at hs1 hl1 |-;have cS:=cS y.src;simp only [C2] at hs1;simp only [bu.cells] at hm;clear c3 c4 c5 c6 c7 c8 hR;cases k1:y.who==w
  ·simp only [k1,Bool.false_and,fY,if_false,List.append_nil] at hs1;simp only [go_sem,seval,aG,hdi,hm,k1,hwi];(with_reducible and_intros)<;>first|exact .dq|omega|skip
   refine ah.step () hi trivial ?_;simp only [go_sem,seval,hs1]
  cases k2:y.inst==n
  ·simp only [k1,k2,Bool.and_false,Bool.false_and,fY,if_false,List.append_nil] at hs1;simp only [go_sem,seval,aG,hdi,hm,k1,k2,hwi];(with_reducible and_intros)<;>first|exact .dq|omega|skip
   refine ah.step () hi trivial ?_;simp only [go_sem,seval,hs1]
  simp only [go_sem,seval,aG,hdi,hm,k1,k2];(with_reducible and_intros)<;>first|exact .dq|omega|skip
  refine aa.pure cS ?_;cases k3:bC s.aj y.src==1
  ·simp only [k1,k2,k3,Bool.and_false,fY,if_false,List.append_nil] at hs1;simp only [go_sem,seval,k3,hwi];(with_reducible and_intros)<;>first|exact .dq|omega|skip
   refine ah.step () hi trivial ?_;simp only [go_sem,seval,hs1]
  simp only [k1,k2,k3,Bool.and_self,if_true] at hs1;simp only [go_sem,seval,k3,aG,hm,hwi];(with_reducible and_intros)<;>first|exact .dq|omega|skip
  refine ah.step () hi trivial ?_;simp only [go_sem,seval,hs1]<;>simp
 intro _ hdx _;rw [List.take_length,<- hB];clear cS hcut;simp only [go_sem,seval,aG,hdx];(with_reducible and_intros)<;>first|exact .dq|omega|skip
 refine aa.gen [1360] [] false (by simp) ?_;simp only [go_sem,seval];refine aY.intro c3 ?_;clear c3 hdx
 by_cases k0:e0=0
 case neg =>
  have d:(e0==0)=false:=by simpa using k0
  rw [if_neg k0] at hR;rw [hR];simp only [go_sem,seval,bne,d]
  all_goals (with_reducible and_intros)<;>first|exact .dq|omega|skip
 rw [if_pos k0] at hR;rw [k0];simp only [go_sem,seval];(with_reducible and_intros)<;>first|exact .dq|omega|skip
 rw [<- hlong];refine aa.pure c4 ?_;clear c4
 by_cases k1:e1=0
 case neg =>
  have d:(e1==0)=false:=by simpa using k1
  rw [if_neg k1] at hR;rw [hR];simp only [go_sem,seval,bne,d]
  all_goals (with_reducible and_intros)<;>first|exact .dq|omega|skip
 rw [if_pos k1] at hR;rw [k1];simp only [go_sem,seval];(with_reducible and_intros)<;>first|exact .dq|omega|skip
 refine aa.pure c5 ?_;clear c5
 by_cases k2:e2=0
 case neg =>
  have d:(e2==0)=false:=by simpa using k2
  rw [if_neg (by rintro ⟨h,_⟩;exact k2 h)] at hR;rw [hR];simp only [go_sem,seval,bne,d]
  all_goals (with_reducible and_intros)<;>first|exact .dq|omega|skip
 by_cases k3:rest=0
 ·rw [if_neg (by rintro ⟨_,h⟩;exact h k3)] at hR;rw [hR,k3,k2];simp only [go_sem,seval,bne]
  all_goals (with_reducible and_intros)<;>first|exact .dq|omega|skip
 have d3:(rest==0)=false:=by simpa using k3
 rw [if_pos ⟨k2,k3⟩] at hR;rw [k2];simp only [go_sem,seval,bne,d3];(with_reducible and_intros)<;>first|exact .dq|omega|skip
 refine aa.gen [] [] false (by simp) ?_;simp only [go_sem,seval];refine aY.intro c6 ?_;clear c6;simp only [go_sem,seval,aG];(with_reducible and_intros)<;>first|exact .dq|omega|skip
 refine aC.walk (S:=Unit) F.length [3,5,6,8,12,18] [96,112,144] (fun i _=>[(20,.int .i64 i),(16,.ref 272)]) (fun i _=>[(272,.own 3 ((ot (dS p) F i).map dP.cells))]) (fun _ _=>True) () trivial ?_ ?_ ?_
 ·simp only [go_sem,seval,E9]<;>simp
 ·intro i _ hi hdi hwi _;have hlen:=tF (dS p) F i;have hm:=aD (c:=dP.cells) (ot (dS p) F i) (i:=i) (by omega);have hset:=Dn (dS p) hi;rw [Hr (dS p) hi] at hm;obtain ⟨y,hy⟩:=aL (F[i]);obtain ⟨M,hM⟩:=aL (ot (dS p) F i);rw [<- hy] at hm hset;rw [<- hM] at hm hset hlen |-;have hset2:M.set i { y with aR:=p }=ot (dS p) F (i+1):=hset;have hli:(i:Int) < (F.length:Int):=by omega
  simp only [dP.cells] at hm;clear c7 c8 hR;simp only [go_sem,seval,aG,hlen,hdi,hm,hwi];(with_reducible and_intros)<;>first|exact .dq|omega|skip
  all_goals first
   | omega
   | (refine ah.step () hi trivial ?_
      simp only [go_sem,seval,<- hset2,List.map_set])
 intro _ hdx _;have hlen:=tF (dS p) F F.length;rw [Cu];rw [Cu,aG] at hlen
 by_cases k4:e3=0
 case neg =>
  have d:(e3==0)=false:=by simpa using k4
  rw [if_neg k4] at hR;rw [hR];simp only [go_sem,seval,aG,hdx,d]
  all_goals (with_reducible and_intros)<;>first|exact .dq|omega|skip
 rw [if_pos k4] at hR;rw [k4];simp only [go_sem,seval,aG,hdx];(with_reducible and_intros)<;>first|exact .dq|omega|skip
 refine aa.gen [272] [] false (by simp) ?_;rw [<- hlong];simp only [go_sem,seval];refine aY.intro c7 ?_;clear c7
 by_cases k5:e4=0
 case neg =>
  have d:(e4==0)=false:=by simpa using k5
  rw [if_neg k5] at hR;rw [hR];simp only [go_sem,seval,d]
  all_goals (with_reducible and_intros)<;>first|exact .dq|omega|skip
 rw [if_pos k5] at hR;rw [k5];simp only [go_sem,seval];(with_reducible and_intros)<;>first|exact .dq|omega|skip
 refine aa.pure c8 ?_;rw [hR];simp only [go_sem,seval]
 all_goals (with_reducible and_intros)<;>first|exact .dq|omega|skip
def dA (s:af) (w:Int):List Int:=pick (fun x=>!(x==w)) (fun x=>x) (mK s.aj [1])
theorem u5 (r:au) (ss:List Int):(mK r ss).length<=r.ms.length:=bY _ _ _
theorem yW (s:af) (w:Int):(dA s w).length<=s.aj.ms.length:=Nat.le_trans (bY _ _ _) (u5 _ _)
theorem zA (s:af) (w:Int) (hs:s.small):Abs.Spec Tryz.prog 201 [] [.agg s.cells,.int .i64 w] [.own 1 (ints (dA s w))] (.ref 0):=by
 have c1:=uM s.aj [1] hs.aj (by simp);have hl:=u5 s.aj [1];have hml:=hs.aj.1;obtain ⟨l,hld⟩:=aL (mK s.aj [1]);simp only [dA];rw [<- hld] at c1 hl |-;simp only [au.cells,ints,List.map_cons,List.map_nil] at c1;have hE:(l.map fun x=>[D.int .i64 x])=ints l:=rfl;rw [hE] at c1;simp only [af.cells];clear hld hE;refine bg 32 2 [.tmp 4] mixed Tryz.func201 ?_;simp only [go_sem,seval];(with_reducible and_intros)<;>first|exact .dq|omega|skip
 refine aa.gen [176] [] false (by simp) ?_;simp only [go_sem,seval];refine aY.intro c1 ?_;simp only [go_sem,seval,ay];(with_reducible and_intros)<;>first|exact .dq|omega|skip
 refine aC.walk (S:=Unit) l.length [1,6] [] (fun i _=>[(7,.int .i64 i),(5,.ref 496)]) (fun i _=>[(496,.own 1 (ints (pick (fun x=>!(x==w)) (fun x=>x) (l.take i))))]) (fun _ _=>True) () trivial ?_ ?_ ?_
 ·simp only [go_sem,seval]<;>simp [pick,ints]
 ·intro i _ hi hdi hwi _;have hm:=ints_at l hi;have hst:=fG (fun x:Int=>!(x==w)) (fun x=>x) hi;have hlen:=bY (fun x:Int=>!(x==w)) (fun x=>x) (l.take i);have hlt:(l.take i).length=i:=by simp;omega
  have hli:(i:Int) < (l.length:Int):=by omega
  obtain ⟨L,hL⟩:=aL (pick (fun x:Int=>!(x==w)) (fun x=>x) (l.take i));obtain ⟨x,hx⟩:=aL (l[i]);rw [<- hx] at hm hst;rw [<- hL] at hst hlen |-;clear c1;cases q:x==w
  ·simp only [q,Bool.not_false,if_true] at hst;simp only [go_sem,seval,ay,hdi,hm,bne,q,hwi];(with_reducible and_intros)<;>first|exact .dq|omega|skip
   refine ah.step () hi trivial ?_;simp only [go_sem,seval,hst]
  ·simp only [q,Bool.not_true,fY,if_false,List.append_nil] at hst;simp only [go_sem,seval,ay,hdi,hm,bne,q,hwi];(with_reducible and_intros)<;>first|exact .dq|omega|skip
   refine ah.step () hi trivial ?_;simp only [go_sem,seval,hst]
 ·intro _ hdx _;simp only [go_sem,seval,ay,hdx,List.take_length]
theorem qp (s:af) (w:Int) (hs:s.small):Abs.Spec Tryz.prog 201 [] [.agg s.cells,.int .i64 w] [] (.sl 1 (ints (dA s w))):=by
 refine Spec.frozen (zA s w hs) [0] rfl ?_;intro r;rcases r with _ | r<;>rfl
def FE (s:af) (w c:Int) (p:eO):Bool:=p.who==w&&(lM s.aj p.bG).b==c
def wW (s:af) (p:eO):Int:=p.units*(lM s.aj p.bG).c
def zm (s:af) (w c:Int):List Int:=pick (FE s w c) (wW s) s.ps
def sF (s:af) (w c:Int):Int:=az (zm s w c)
def tc (s:af) (w c:Int):Int:=if bP (sF s w c) then sF s w c else 0
theorem Mv {r:au} (h:r.okB=true) (n:Int):0<=(lM r n).c/\(lM r n).c<=1073741824:=by
 simp only [au.okB,bZ] at h;refine xy (R:=fun a:av=>0<=a.c/\a.c<=1073741824) (by decide) fun a ha=>?_
 have:=qy h.2 a ha;simp only [av.ok,within,bZ,decide_eq_true_eq] at this;omega
theorem OG {s:af} (h1:s.aj.okB=true) (h2:gf s.ps=true):∀ p∈s.ps,0<=wW s p/\wW s p<=1180591620717411303424:=fun p hp=>by
 have ha:=Mv h1 p.bG;have hu:=((gO.1 h2).1 p hp).2;have h3:=eT (a:=p.units) (b:=(lM s.aj p.bG).c) (A:=1099511627776) (B:=1073741824) (by omega) (by omega);have h4:=Int.mul_nonneg (show 0<=p.units by omega) ha.1;simp only [wW];omega
theorem OI {s:af} (h1:s.aj.okB=true) (h2:gf s.ps=true) (hl:s.ps.length < 2 ^ 30) (w c:Int):pg (sF s w c)=true/\∀ n∈zm s w c,pg n=true:=by
 have hr:∀ n∈zm s w c,0<=n/\n<=1180591620717411303424:=kM fun p hp=>OG h1 h2 p hp
 have hs:=yu (B:=1180591620717411303424) (by decide) hr;have hlen:(zm s w c).length<=s.ps.length:=bY _ _ _;constructor
 ·have e:sF s w c=az (zm s w c):=rfl;rw [e];simp only [pg,bZ,decide_eq_true_eq];constructor<;>omega
 ·intro n hn;have:=hr n hn;simp only [pg,bZ,decide_eq_true_eq];omega
theorem wI (s:af) (w c:Int) (hs:s.small) (h1:s.aj.okB=true) (h2:gf s.ps=true):Abs.Spec Tryz.prog 199 [] [.agg s.cells,.int .i64 w,.int .i64 c] [] (.bI [.int .i64 (tc s w c),.bool (bP (sF s w c))]):=by
 have cH:∀ n,Abs.Spec Tryz.prog 118 [] [.agg s.aj.cells,.int .i64 n] [] (.bI [.agg (lM s.aj n).cells,.bool (jm s.aj n)]):=fun n=>ku s.aj n hs.aj.small
 obtain ⟨hin,hall⟩:=OI h1 h2 hs.ps w c;have hll:(zm s w c).length<=s.ps.length:=bY _ _ _;have hpl:=hs.ps;have cSum:=jW (zm s w c) (by omega) hall;have cI:=jU (sF s w c);have eS:az (zm s w c)=sF s w c:=rfl;rw [eS,hin,if_pos rfl] at cSum;have eN:(if bP (sF s w c) then sF s w c else 0)=tc s w c:=rfl;rw [eN] at cI;have hast:=fun n=>Mv h1 n
 have hu:=fun p hp=>((gO.1 h2).1 p hp).2
 simp only [wd] at cSum cI;simp only [af.cells];simp only [au.cells] at cH;clear h1 h2 hin hall eS eN;refine bg 76 3 [.tmp 6,.tmp 7] mixed Tryz.func199 ?_;simp only [go_sem,seval,nY];refine aC.walk (S:=Unit) s.ps.length [1,2,3] [64] (fun i _=>[(9,.int .i64 i),(8,.ref 976)]) (fun i _=>[(976,.own 2 (kD (pick (FE s w c) (wW s) (s.ps.take i))))]) (fun _ _=>True) () trivial ?_ ?_ ?_
 ·simp only [go_sem,seval]<;>simp [pick,kD]
 ·intro i _ hi hdi hwi _;have hm:=mT s.ps hi;have hs1:=Eu (FE s w c) (wW s) hi;have hlen:=bY (FE s w c) (wW s) (s.ps.take i);have hlt:(s.ps.take i).length=i:=by simp;omega
  have hli:(i:Int) < (s.ps.length:Int):=by omega
  have hui:=hu _ (List.getElem_mem hi);obtain ⟨L,hL⟩:=aL (pick (FE s w c) (wW s) (s.ps.take i));obtain ⟨x,hx⟩:=aL (s.ps[i]);rw [<- hx] at hm hs1 hui;rw [<- hL] at hs1 hlen |-;have cHi:=cH x.bG;have hai:=hast x.bG;simp only [FE,wW] at hs1;obtain ⟨a,ha⟩:=aL (lM s.aj x.bG);rw [<- ha] at cHi hai;simp only [<- ha] at hs1;have cT:=lP x.units a.c ⟨by omega,by omega⟩ ⟨by omega,by omega⟩;have hwl:(kD L).length<=i:=by rw [we];omega
  simp only [av.cells] at cHi;simp only [wd] at cT;clear cH cSum cI hast hu;simp only [go_sem,seval,nY,hdi,hm];(with_reducible and_intros)<;>first|exact .dq|omega|skip
  refine aa.pure cHi ?_;cases q1:x.who==w
  ·simp only [q1,Bool.false_and,fY,if_false,List.append_nil] at hs1;simp only [go_sem,seval,nY,hm,q1,hwi];(with_reducible and_intros)<;>first|exact .dq|omega|skip
   refine ah.step () hi trivial ?_;simp only [go_sem,seval,hs1]
  cases q2:a.b==c
  ·simp only [q1,q2,Bool.and_false,fY,if_false,List.append_nil] at hs1;simp only [go_sem,seval,nY,hm,q1,q2,hwi];(with_reducible and_intros)<;>first|exact .dq|omega|skip
   refine ah.step () hi trivial ?_;simp only [go_sem,seval,hs1]
  simp only [q1,q2,Bool.and_self,if_true] at hs1;simp only [go_sem,seval,nY,hm,q1,q2];(with_reducible and_intros)<;>first|exact .dq|omega|skip
  refine aa.pure cT ?_;simp only [go_sem,seval,hwi];(with_reducible and_intros)<;>first|exact .dq|omega|skip
  refine ah.step () hi trivial ?_;simp only [go_sem,seval,hs1]<;>simp [kD,wd]
 ·intro _ hdx _;simp only [go_sem,seval,nY,hdx,List.take_length];(with_reducible and_intros)<;>first|exact .dq|omega|skip
  refine aa.gen [] [] true (by simp) ?_;simp only [go_sem,seval];refine aY.intro cSum ?_;simp only [go_sem,seval];(with_reducible and_intros)<;>first|exact .dq|omega|skip
  refine aa.pure cI ?_;simp only [go_sem,seval]
  all_goals (with_reducible and_intros)<;>first|exact .dq|omega|skip
def gJ (s:af) (w:Int) (b:aF) (n:Int):aF × Int:=if (posOf w n b.qs).aV==0 then (b,0) else nO s b w n (posOf w n b.qs).aV
def mo (s:af) (w:Int):Nat->Nat->aF->aF × Int
 | 0,_,b=>(b,0)
 | m+1,i,b=>if (gJ s w b ((i:Int)+1)).2=0 then mo s w m (i+1) (gJ s w b ((i:Int)+1)).1 else ((gJ s w b ((i:Int)+1)).1,(gJ s w b ((i:Int)+1)).2)
def mO (w:Int) (l:List aA):List aA:=l.flatMap fun p=>if p.who==w then [] else [p]
def K8 (s:af) (w:Int) (p:aA):List aN:=if p.who==w then [⟨w,(aT s.aj p.inst).cur,gI p (aT s.aj p.inst).mult 0⟩] else []
def oQ (s:af) (w:Int) (l:List aA):List aN:=l.flatMap (K8 s w)
def Ae (s:af) (w:Int) (l:List aA):Bool:=l.all fun p=>!(p.who==w)||bP (gI p (aT s.aj p.inst).mult 0)
def nU (s:af) (w:Int):Int:=if Kh s w=0 then (if (mo s w 8 0 s.book).2=0 then (if Ae s w (mo s w 8 0 s.book).1.qs then 0 else 1) else (mo s w 8 0 s.book).2) else Kh s w
def oL (s:af) (w:Int):aF:=if nU s w=0 then ⟨(mo s w 8 0 s.book).1.next,(mo s w 8 0 s.book).1.ts,mO w (mo s w 8 0 s.book).1.qs⟩ else ⟨0,[],[]⟩
def qq (s:af) (w:Int):List aN:=if nU s w=0 then oQ s w (mo s w 8 0 s.book).1.qs else []
theorem qU {s:af} {w:Int} {b:aF} (hb:b.fZ) (n:Int):(gJ s w b n).1.fZ:=by
 unfold gJ;split
 ·exact hb
 ·exact Lo hb _ _ _
theorem ya {s:af} {w:Int}:∀ (m i:Nat) {b:aF},b.fZ->(mo s w m i b).1.fZ
 | 0,_,_,hb=>hb
 | m+1,i,b,hb=>by
  simp only [mo];split
  ·exact ya m _ (qU hb _)
  ·exact qU hb _
theorem tQ {s:af} {w:Int} (h:Kh s w=0):br s=true/\bC s.aj w=2:=by
 unfold Kh at h;split at h
 ·split at h
  ·cases h
  ·split at h
   ·exact ⟨by assumption,by assumption⟩
   ·cases h
 ·cases h
theorem oV {s:af} (h:br s=true):s.aj.okB=true/\s.book.okB=true/\s.aU.okB=true/\gf s.ps=true/\lZ bS bM s.calls=true:=by
 simp only [br,bZ] at h;exact ⟨h.2.1,h.2.2.1,h.2.2.2.1,h.2.2.2.2.1,h.2.2.2.2.2.1⟩
theorem Pm {r:au} (h:r.okB=true) (n:Int):0<=(aT r n).mult/\(aT r n).mult<=1024:=by
 simp only [au.okB,bZ] at h;refine xy (R:=fun x:aq=>0<=x.mult/\x.mult<=1024) (by decide) fun x hx=>?_
 have:=qy h.1.2 x hx;simp only [aq.ok,within,bZ,decide_eq_true_eq] at this;omega
theorem EA {b:aF} (h:b.okB=true) (hs:b.small) (hq:b.qs.length < 2 ^ 20) (hr:∀ p∈b.qs,p.cE):b.fZ:=
 ⟨hs,hq,hr,fun p hp=>by have:=Bb (Ba h p hp);exact ⟨⟨this.1,this.2.1⟩,this.2.2⟩⟩
theorem xF (s:af) (w:Int) (hs:s.small) (hr:s.cE) (hq:s.book.qs.length < 2 ^ 20) (hbl:s.aX.length < 2 ^ 20):Abs.Spec Tryz.prog 146 [] [.agg s.cells,.int .i64 w] [.own 4 ((oL s w).qs.map aA.cells),.own 3 ((qq s w).map aN.cells)] (.bI [.agg [.int .i64 (oL s w).next,.sl 7 ((oL s w).ts.map aI.cells),.ref 0],.ref 1,.int .i64 (nU s w)]):=by
 have c1:=Kn s w hs hr;have c2:=mM s.book hs.book;have cSell:=fun b n q hb=>F8 s b w n q hs hb hbl
 have cI:=fun n=>dc s.aj n hs.aj.small
 have hme:=@tQ s w;simp only [oL,qq,nU];obtain ⟨me,hmed⟩:=aL (Kh s w);rw [<- hmed] at c1 hme;simp only [<- hmed];have c1':=c1;simp only [af.cells] at c1 cSell |-;simp only [aF.cells] at c2;simp only [au.cells] at cI;clear c1' hmed;refine bg 110 2 [.cell 4 33,.tmp 5,.tmp 6] mixed Tryz.func146 ?_;simp only [go_sem,seval];(with_reducible and_intros)<;>first|exact .dq|omega|skip
 refine aa.pure c1 ?_;clear c1
 by_cases b1:me=0
 case neg =>
  have d:(me==0)=false:=by simpa using b1
  simp only [if_neg b1];simp only [go_sem,seval,bne,d]
  all_goals simp
 obtain ⟨hright,_⟩:=hme b1;obtain ⟨hroll,hbook,_⟩:=oV hright;have hfine:=EA hbook hs.book hq hr.qs;have hmu:=fun n=>Pm hroll n
 simp only [b1,if_true];obtain ⟨R,hR⟩:=aL (mo s w 8 0 s.book);have hRf:R.1.fZ:=by rw [hR];exact ya 8 0 hfine
 simp only [<- hR];clear hme hright hroll hbook b1;simp only [go_sem,seval];(with_reducible and_intros)<;>first|exact .dq|omega|skip
 refine aa.pure c2 ?_;clear c2;simp only [go_sem,seval];(with_reducible and_intros)<;>first|exact .dq|omega|skip
 refine aC.walk (S:=aF) 8 [1,2,4,8] [48,80] (fun i _=>[(9,.int .i64 ((i:Int)+1))]) (fun _ b=>[(144,.box [.int .i64 b.next,.sl 7 (b.ts.map aI.cells),.sl 4 (b.qs.map aA.cells)])]) (fun i b=>mo s w (8-i) i b=R/\b.fZ) s.book ⟨hR.symm,hfine⟩ ?_ ?_ ?_
 ·simp only [go_sem,seval]<;>simp
 ·rintro i b hi _ _ ⟨hI,hb⟩
  obtain ⟨n,hn⟩:=aL ((i:Int)+1);have hd:decide (n<=8)=true:=decide_eq_true (by omega);have hwn:IntKind.wrap .i64 (n+1)=((i+1:Nat):Int)+1:=by rw [bz (by omega) (by omega)];omega
  obtain ⟨m,hm⟩:∃ m,8-i=m+1:=⟨8-i-1,by omega⟩
  have hm2:8-(i+1)=m:=by omega
  rw [hm] at hI;simp only [mo,<- hn] at hI;have hsf:=qU (s:=s) (w:=w) hb n;have c3:=m9 b w n hb.small;have c4:=cSell b n (posOf w n b.qs).aV hb;have hst:gJ s w b n=if (posOf w n b.qs).aV==0 then (b,0) else nO s b w n (posOf w n b.qs).aV:=rfl
  obtain ⟨p,hp⟩:=aL (posOf w n b.qs);rw [<- hp] at c3 c4 hst;rw [<- hn];simp only [aF.cells,aA.cells] at c3 c4;clear cSell cI hp;cases q1:p.aV==0
  case true =>
   simp only [q1,if_true] at hst;rw [hst] at hI;simp only [if_true] at hI;simp only [go_sem,seval,hd];(with_reducible and_intros)<;>first|exact .dq|omega|skip
   refine aa.pure c3 ?_;simp only [go_sem,seval,q1,hwn];(with_reducible and_intros)<;>first|exact .dq|omega|skip
   refine ah.step b hi ⟨by rw [hm2];exact hI,hb⟩ ?_;simp only [go_sem,seval]
  simp only [q1,fY,if_false] at hst;rw [hst] at hI hsf;obtain ⟨X,hX⟩:=aL (nO s b w n p.aV);rw [<- hX] at hI hsf c4;simp only [go_sem,seval,hd];(with_reducible and_intros)<;>first|exact .dq|omega|skip
  refine aa.pure c3 ?_;simp only [go_sem,seval,q1];(with_reducible and_intros)<;>first|exact .dq|omega|skip
  refine aa.pure c4 ?_
  by_cases q2:X.2=0
  ·rw [if_pos q2] at hI;rw [q2];simp only [go_sem,seval,bne,hwn];(with_reducible and_intros)<;>first|exact .dq|omega|skip
   refine ah.step X.1 hi ⟨by rw [hm2];exact hI,hsf⟩ ?_;simp only [go_sem,seval]
  ·have d:(X.2==0)=false:=by simpa using q2
   rw [if_neg q2] at hI;have hR2:R.2=X.2:=by rw [<- hI]
   simp only [hR2,if_neg q2];simp only [go_sem,seval,bne,d]
   all_goals simp
 ·rintro b _ ⟨hI,hb⟩
  have hI:(b,0)=R:=hI;simp only [<- hI,if_true];have c5:=mM b hb.small;have hbs:=hb.small.2;simp only [aF.cells] at c5;clear cSell hI hRf hR;have ecut:(if (if Ae s w b.qs=true then (0:Int) else 1)=0 then (⟨b.next,b.ts,mO w b.qs⟩:aF) else ⟨0,[],[]⟩)=if Ae s w b.qs=true then ⟨b.next,b.ts,mO w b.qs⟩ else ⟨0,[],[]⟩:=by cases Ae s w b.qs<;>rfl
  have ecut2:(if (if Ae s w b.qs=true then (0:Int) else 1)=0 then oQ s w b.qs else [])=if Ae s w b.qs=true then oQ s w b.qs else []:=by cases Ae s w b.qs<;>rfl
  rw [ecut,ecut2];clear ecut ecut2;simp only [go_sem,seval];(with_reducible and_intros)<;>first|exact .dq|omega|skip
  refine aa.pure c5 ?_;clear c5;simp only [go_sem,seval,aG];(with_reducible and_intros)<;>first|exact .dq|omega|skip
  refine aC.walk (S:=Unit) b.qs.length [1,2,4,8,12] [48,80,144] (fun i _=>[(14,.int .i64 i),(13,.ref 1728)]) (fun i _=>[(208,.box [.int .i64 b.next,.sl 7 (b.ts.map aI.cells),.ref 1280]),(1280,.own 4 ((mO w (b.qs.take i)).map aA.cells)),(1728,.own 3 ((oQ s w (b.qs.take i)).map aN.cells))]) (fun i _=>Ae s w (b.qs.drop i)=Ae s w b.qs) () rfl ?_ ?_ ?_
  ·simp only [go_sem,seval]<;>simp [mO,oQ]
  ·intro i _ hi hdi hwi hI;have hm:=aD (c:=aA.cells) b.qs hi;have hli:(i:Int) < (b.qs.length:Int):=by omega
   have hlt:(b.qs.take i).length=i:=by simp;omega
   have hs1:mO w (b.qs.take (i+1))=mO w (b.qs.take i)++_:=gl _ hi;have hs2:oQ s w (b.qs.take (i+1))=oQ s w (b.qs.take i)++_:=gl _ hi;have hl1:(mO w (b.qs.take i)).length<=1*(b.qs.take i).length:=fm (fun p=>by split<;>simp) _;have hl2:(oQ s w (b.qs.take i)).length<=1*(b.qs.take i).length:=fm (fun p=>by unfold K8;split<;>simp) _;have hxo:=hb.ok _ (List.getElem_mem hi);obtain ⟨x,hx⟩:=aL (b.qs[i]);obtain ⟨K,hK⟩:=aL (mO w (b.qs.take i));obtain ⟨V,hV⟩:=aL (oQ s w (b.qs.take i));rw [dy hi,<- hx] at hI;rw [<- hx] at hm hs1 hs2 hxo;rw [<- hK] at hs1 hl1;rw [<- hV] at hs2 hl2;rw [<- hK,<- hV];have hc:Ae s w (x :: b.qs.drop (i+1))=((!(x.who==w)||bP (gI x (aT s.aj x.inst).mult 0))&&Ae s w (b.qs.drop (i+1))):=rfl;rw [hc] at hI;have cIx:=cI x.inst;have hmux:=hmu x.inst;simp only [K8] at hs2;obtain ⟨y,hy⟩:=aL (aT s.aj x.inst);rw [<- hy] at cIx hmux hI;simp only [<- hy] at hs2;have cW:=uJ x y.mult 0 ⟨by omega,by omega⟩ hxo.2 hmux ⟨by omega,by omega⟩;simp only [aA.cells] at hm cW;simp only [aq.cells] at cIx;clear cI hmu hK hV hy;cases q1:x.who==w
   ·simp only [q1,fY,if_false,List.append_nil] at hs1 hs2;simp only [q1,Bool.not_false,Bool.true_or,Bool.true_and] at hI;simp only [go_sem,seval,aG,hdi,hm,bne,q1,hwi];(with_reducible and_intros)<;>first|exact .dq|omega|skip
    refine ah.step () hi hI ?_;simp only [go_sem,seval,hs1,hs2]<;>simp
   simp only [q1,if_true,List.append_nil] at hs1 hs2;simp only [q1,Bool.not_true,Bool.false_or] at hI;simp only [go_sem,seval,aG,hdi,hm,bne,q1];(with_reducible and_intros)<;>first|exact .dq|omega|skip
   refine aa.pure cIx ?_;simp only [go_sem,seval];(with_reducible and_intros)<;>first|exact .dq|omega|skip
   refine aa.pure cW ?_;cases q2:bP (gI x y.mult 0)
   ·rw [q2,Bool.false_and] at hI;rw [<- hI];simp only [go_sem,seval,q2]
    all_goals simp
   rw [q2,Bool.true_and] at hI;simp only [go_sem,seval,q2,hwi,aG,if_true];(with_reducible and_intros)<;>first|exact .dq|omega|skip
   refine ah.step () hi hI ?_;simp only [go_sem,seval,hs1,hs2]<;>simp
  ·intro _ hdx hI;rw [List.drop_length] at hI;rw [<- hI,show Ae s w []=true from rfl];simp only [go_sem,seval,aG,hdx,List.take_length]
   all_goals simp
theorem wT (s:af) (w:Int) (hs:s.small) (hr:s.cE) (hq:s.book.qs.length < 2 ^ 20) (hbl:s.aX.length < 2 ^ 20):Abs.Spec Tryz.prog 146 [] [.agg s.cells,.int .i64 w] [] (.bI [.agg (oL s w).cells,.sl 3 ((qq s w).map aN.cells),.int .i64 (nU s w)]):=by
 refine Spec.frozen (xF s w hs hr hq hbl) [0,1] rfl ?_;intro r;rcases r with _ | _ | r<;>rfl
def C8 (s:af) (w c gain:Int):Int:=az [gain,min (gw ⟨2,w,c⟩ s.aU.bs) 0]
def OX (s:af) (w c gain:Int):Int:=az [max (gw ⟨2,w,c⟩ s.aU.bs) 0,tc s w c,max (C8 s w c gain) 0]
def Q3 (s:af) (w c gain:Int):Bool:=(bP (sF s w c)&&bP (C8 s w c gain))&&(bP (OX s w c gain)&&(gS s.aU c (dA s w)==0&&jG s.aj (dA s w)==0))
def oP (s:af) (w c gain:Int):Int:=if br s then (if bC s.aj w=0 then 10 else if within c 0 2&&bP gain then (if Q3 s w c gain then 0 else 1) else 3) else 14
def rX (s:af) (w c gain:Int):List Int:=if oP s w c gain=0 then [OX s w c gain,gw ⟨3,w,c⟩ s.aU.bs,gw ⟨4,0,c⟩ s.aU.bs,oB s.aU c (dA s w),sy s.aj (dA s w)] else []
def yR (s:af) (w c gain:Int):Int:=if oP s w c gain=0 then max (-C8 s w c gain) 0 else 0
theorem FV {l:List Int} (h:bP (az l)=true):addN l=az l:=by simp [addN,h]
theorem Qb (s:af) (w c:Int):bP (tc s w c)=true:=by
 unfold tc;split
 ·assumption
 ·rfl
theorem IU (s:af) (w c gain:Int) (hs:s.small) (hr:s.cE) (hm:s.aj.ms.length < 2 ^ 27):Abs.Spec Tryz.prog 148 [] [.agg s.cells,.int .i64 w,.int .i64 c,.int .i64 gain] [.own 1 (ints (rX s w c gain))] (.bI [.int .i64 (yR s w c gain),.ref 0,.int .i64 (oP s w c gain)]):=by
 have c1:=gy s hs hr;have c2:=l9 s w hs.aj.small;have c3:=fB c;have c4:=cZ gain;have cA:=fun k w=>yI k w c
 have cO:=fun a=>j0 s.aU a hs.aU
 have c5:=qp s w hs;have hol:=yW s w;have c6:=sZ s.aU c (dA s w) hs.aU hr.bs (by omega);have c7:=uN s.aj (dA s w) hs.aj hr.ms (by omega);have cSold:=wI s w c hs;have hrp:=@oV s;simp only [aH.cells,bq.cells] at cO;simp only [bq.cells] at c6;simp only [au.cells] at c7;obtain ⟨t,ht⟩:=aL (bC s.aj w);obtain ⟨E,hE⟩:=aL (oP s w c gain);have hE0:=hE;simp only [oP,<- ht] at hE;simp only [rX,yR,<- hE0];rw [<- ht] at c2;simp only [af.cells] at c1 c2 c5 cSold |-;clear ht hE0 hol;refine bg 120 4 [.tmp 8,.tmp 9,.tmp 10] mixed Tryz.func148 ?_;simp only [go_sem,seval];(with_reducible and_intros)<;>first|exact .dq|omega|skip
 refine aa.pure c1 ?_;clear c1;cases b1:br s
 ·rw [b1,if_neg (by simp)] at hE;rw [hE];simp only [go_sem,seval,b1]<;>simp [ints]
 obtain ⟨hroll,hbook,hled,hps,_⟩:=hrp b1;have cSold:=cSold hroll hps;rw [b1,if_pos rfl] at hE;simp only [go_sem,seval,b1];(with_reducible and_intros)<;>first|exact .dq|omega|skip
 refine aa.pure c2 ?_;clear c2
 by_cases b2:t=0
 ·rw [if_pos b2] at hE;rw [hE,b2];simp only [go_sem,seval]<;>simp [ints]
 have d2:(t==0)=false:=by simpa using b2
 rw [if_neg b2] at hE;simp only [go_sem,seval,d2];(with_reducible and_intros)<;>first|exact .dq|omega|skip
 refine aa.pure c3 ?_;clear c3;cases b3:within c 0 2
 ·rw [b3,Bool.false_and,if_neg (by simp)] at hE;rw [hE];simp only [go_sem,seval]<;>simp [ints]
 simp only [go_sem,seval];(with_reducible and_intros)<;>first|exact .dq|omega|skip
 refine aa.pure c4 ?_;clear c4;cases b4:bP gain
 ·rw [b4,Bool.and_false,if_neg (by simp)] at hE;rw [hE];simp only [go_sem,seval]<;>simp [ints]
 rw [b3,b4,Bool.and_self,if_pos rfl] at hE;have hg:=cm.1 b4;have hcash:=yp hled ⟨2,w,c⟩;have hcr:=cm.1 hcash;have c8:=ct [gain,min (gw ⟨2,w,c⟩ s.aU.bs) 0] (by intro n hn;simp only [List.mem_cons,List.not_mem_nil,or_false] at hn;rcases hn with rfl | rfl<;>exact ⟨by omega,by omega⟩) (by simp);have eX:az [gain,min (gw ⟨2,w,c⟩ s.aU.bs) 0]=C8 s w c gain:=rfl;have hX:bP (C8 s w c gain)=true->addN [gain,min (gw ⟨2,w,c⟩ s.aU.bs) 0]=C8 s w c gain:=fun h=>FV h
 have hsn:=cm.1 (Qb s w c);have c9:=fun (h:bP (C8 s w c gain)=true)=>ct [max (gw ⟨2,w,c⟩ s.aU.bs) 0,tc s w c,max (C8 s w c gain) 0] (by have:=cm.1 h;intro n hn;simp only [List.mem_cons,List.not_mem_nil,or_false] at hn;rcases hn with rfl | rfl | rfl<;>exact ⟨by omega,by omega⟩) (by simp)
 have eF:az [max (gw ⟨2,w,c⟩ s.aU.bs) 0,tc s w c,max (C8 s w c gain) 0]=OX s w c gain:=rfl;have hF:bP (OX s w c gain)=true->addN [max (gw ⟨2,w,c⟩ s.aU.bs) 0,tc s w c,max (C8 s w c gain) 0]=OX s w c gain:=fun h=>FV h
 rw [eX] at c8;simp only [eF] at c9;simp only [Q3] at hE;simp only [ints,List.map_cons,List.map_nil] at c8 c9;have cO2:=cO ⟨2,w,c⟩;have cO3:=cO ⟨3,w,c⟩;have cO4:=cO ⟨4,0,c⟩;obtain ⟨ca,hca⟩:=aL (gw ⟨2,w,c⟩ s.aU.bs);obtain ⟨ow,how⟩:=aL (gw ⟨3,w,c⟩ s.aU.bs);obtain ⟨sk,hsk⟩:=aL (gw ⟨4,0,c⟩ s.aU.bs);obtain ⟨X,hXd⟩:=aL (C8 s w c gain);obtain ⟨F,hFd⟩:=aL (OX s w c gain);simp only [<- hca,<- hXd,<- hFd] at c8 c9 hX hF hE;rw [<- hca] at cO2;rw [<- how] at cO3;rw [<- hsk] at cO4;simp only [<- hXd,<- hFd,<- how,<- hsk];clear eX eF hcash hcr hca how hsk hXd hFd cO hg hsn;simp only [go_sem,seval];(with_reducible and_intros)<;>first|exact .dq|omega|skip
 refine aa.pure (cA 2 w) ?_;simp only [go_sem,seval];(with_reducible and_intros)<;>first|exact .dq|omega|skip
 refine aa.pure cO2 ?_;simp only [go_sem,seval];(with_reducible and_intros)<;>first|exact .dq|omega|skip
 refine aa.pure cSold ?_;simp only [go_sem,seval];(with_reducible and_intros)<;>first|exact .dq|omega|skip
 refine aa.gen [] [] true (by simp) ?_;simp only [go_sem,seval];refine aY.intro c8 ?_;cases k1:bP (sF s w c)
 ·rw [k1,Bool.false_and,Bool.false_and,if_neg (by simp)] at hE;rw [hE];simp only [go_sem,seval,k1]<;>simp [ints]
 cases k2:bP X
 ·rw [k1,k2,Bool.and_false,Bool.false_and,if_neg (by simp)] at hE;rw [hE];simp only [go_sem,seval,k1,k2]<;>simp [ints]
 have hXr:=cm.1 k2;have hX:=hX k2;have c9:=c9 k2;rw [hX];rw [k1,k2,Bool.and_self,Bool.true_and] at hE;simp only [go_sem,seval,k1,k2];(with_reducible and_intros)<;>first|exact .dq|omega|skip
 refine aa.gen [] [] true (by simp) ?_;simp only [go_sem,seval];refine aY.intro c9 ?_;simp only [go_sem,seval];(with_reducible and_intros)<;>first|exact .dq|omega|skip
 refine aa.pure c5 ?_;simp only [go_sem,seval];(with_reducible and_intros)<;>first|exact .dq|omega|skip
 refine aa.pure c6 ?_;simp only [go_sem,seval];(with_reducible and_intros)<;>first|exact .dq|omega|skip
 refine aa.pure c5 ?_;simp only [go_sem,seval];(with_reducible and_intros)<;>first|exact .dq|omega|skip
 refine aa.pure c7 ?_;cases k3:bP F
 ·rw [k3,Bool.false_and,if_neg (by simp)] at hE;rw [hE];simp only [go_sem,seval,k3]<;>simp [ints]
 have hF:=hF k3;cases k4:gS s.aU c (dA s w)==0
 ·rw [k3,k4,Bool.false_and,Bool.and_false,if_neg (by simp)] at hE;rw [hE];simp only [go_sem,seval,k3,bne,k4]<;>simp [ints]
 cases k5:jG s.aj (dA s w)==0
 ·rw [k3,k4,k5,Bool.and_false,Bool.and_false,if_neg (by simp)] at hE;rw [hE];simp only [go_sem,seval,k3,bne,k4,k5]<;>simp [ints]
 rw [k3,k4,k5,Bool.and_self,Bool.and_self,if_pos rfl] at hE;have hw:IntKind.wrap .i64 (0-X) = -X:=by rw [bz (by omega) (by omega)];omega
 rw [hE,hF];simp only [go_sem,seval,k3,bne,k4,k5,hw];(with_reducible and_intros)<;>first|exact .dq|omega|skip
 refine aa.pure (cA 3 w) ?_;simp only [go_sem,seval];(with_reducible and_intros)<;>first|exact .dq|omega|skip
 refine aa.pure cO3 ?_;simp only [go_sem,seval];(with_reducible and_intros)<;>first|exact .dq|omega|skip
 refine aa.pure (cA 4 0) ?_;simp only [go_sem,seval];(with_reducible and_intros)<;>first|exact .dq|omega|skip
 refine aa.pure cO4 ?_;simp only [go_sem,seval]<;>simp [ints]
theorem G1 (s:af) (w c gain:Int) (hs:s.small) (hr:s.cE) (hm:s.aj.ms.length < 2 ^ 27):Abs.Spec Tryz.prog 148 [] [.agg s.cells,.int .i64 w,.int .i64 c,.int .i64 gain] [] (.bI [.int .i64 (yR s w c gain),.sl 1 (ints (rX s w c gain)),.int .i64 (oP s w c gain)]):=by
 refine Spec.frozen (IU s w c gain hs hr hm) [0] rfl ?_;intro r;rcases r with _ | r<;>rfl
def TE (s:af) (w c gain:Int) (f:dM):List aW:=
 bN ⟨1,0,c⟩ ⟨2,w,c⟩ (tc s w c)++bN ⟨5,0,c⟩ ⟨2,w,c⟩ gain++bN ⟨6,0,c⟩ ⟨2,w,c⟩ f.gM++bN ⟨2,w,c⟩ ⟨6,0,c⟩ f.c0++bN ⟨3,w,c⟩ ⟨6,0,c⟩ f.c1++bN ⟨4,0,c⟩ ⟨6,0,c⟩ f.c2
def KB (s:af) (w c gain:Int) (f:dM) (x y:Int):List aW:=
 TE s w c gain f++zo s.aU c f.c3 (dA s w)++oE s.aj c f.c4 (dA s w)++bN ⟨2,w,c⟩ ⟨1,0,c⟩ x++bN ⟨3,w,c⟩ ⟨1,0,c⟩ y
def kK (s:af) (w c gain:Int) (f:dM) (a b:Int):List aW × Int × Int:=
 if JS s.aU c f.c3 (dA s w)=0 then (if wq s.aj c f.c4 (dA s w)=0 then (if bP (a-f.c0+(b-f.c1)) then (iF (KB s w c gain f (a-f.c0) (b-f.c1)),a-f.c0+(b-f.c1),mP (KB s w c gain f (a-f.c0) (b-f.c1))) else ([],0,1)) else ([],0,wq s.aj c f.c4 (dA s w))) else ([],0,JS s.aU c f.c3 (dA s w))
theorem uh (l:List aW):(iF l).length<=306:=by
 unfold iF;split
 ·exact Nat.le_trans (EN _ _) wE
 ·simp
theorem Ft (k c n all:Int) (ws gs:List Int):(sN k c n all ws gs).length<=306:=by
 unfold sN;split
 ·exact uh _
 ·simp
theorem OF (l:bq) (c n:Int) (ws:List Int):(zo l c n ws).length<=306:=by
 unfold zo;split
 ·exact Ft _ _ _ _ _ _
 ·simp
theorem Ij (r:au) (c n:Int) (ws:List Int):(oE r c n ws).length<=306:=by
 unfold oE;split
 ·exact Ft _ _ _ _ _ _
 ·simp
theorem Bt (s:af) (w c gain:Int) (f:dM) (caps:List Int) (a b:Int) (rest:List Int) (hcaps:caps=a :: b :: rest) (hrl:rest.length < 2 ^ 20) (hs:s.small) (hr:s.cE) (hm:s.aj.ms.length < 2 ^ 27) (h1:s.aj.okB=true) (h2:gf s.ps=true) (hx:eW (a-f.c0)) (hy:eW (b-f.c1)) :
  Abs.Spec Tryz.prog 150 [] [.agg s.cells,.int .i64 w,.int .i64 c,.int .i64 gain,.agg f.cells,.sl 1 (ints caps)] [] (.bI [.sl 4 ((kK s w c gain f a b).1.map aW.cells),.int .i64 (kK s w c gain f a b).2.1,.int .i64 (kK s w c gain f a b).2.2]):=by
 have cA:=fun k w=>yI k w c
 have cM:=fun x y n=>ij x y n
 have cSold:=wI s w c hs h1 h2;have c5:=qp s w hs;have hol:=yW s w;have c6:=Gs s.aU c f.c3 (dA s w) hs.aU hr.bs (by omega);have c7:=Dc s.aj c f.c4 (dA s w) hs.aj hr.ms (by omega);have c8:=ct [a-f.c0,b-f.c1] (by intro n hn;simp only [List.mem_cons,List.not_mem_nil,or_false] at hn;rcases hn with rfl | rfl<;>assumption) (by simp);have eX:az [a-f.c0,b-f.c1]=a-f.c0+(b-f.c1):=by simp [az]
 have hw1:IntKind.wrap .i64 (a-f.c0)=a-f.c0:=bz hx.1 (by have:=hx.2;omega);have hw2:IntKind.wrap .i64 (b-f.c1)=b-f.c1:=bz hy.1 (by have:=hy.2;omega);have hlv:=OF s.aU c f.c3 (dA s w);have hla:=Ij s.aj c f.c4 (dA s w);have cJ:=mg (KB s w c gain f (a-f.c0) (b-f.c1)) (by simp [KB,TE,bN];omega);obtain ⟨R,hR⟩:=aL (kK s w c gain f a b);rw [<- hR];simp only [kK] at hR;obtain ⟨G,hG⟩:=aL (KB s w c gain f (a-f.c0) (b-f.c1));rw [<- hG] at cJ hR;simp only [KB,TE] at hG;obtain ⟨x,hxd⟩:=aL (a-f.c0);obtain ⟨y,hyd⟩:=aL (b-f.c1);rw [<- hxd,<- hyd] at eX c8 hG hR;have hw1:=hw1.trans hxd.symm;have hw2:=hw2.trans hyd.symm;rw [eX] at c8;have hadd:bP (x+y)=true->addN [x,y]=x+y:=fun h=>by rw [FV (by rw [eX];exact h),eX]
 have hmv:∀ p q n,(bN p q n).length=2:=fun _ _ _=>rfl
 obtain ⟨e1,he1⟩:=aL (JS s.aU c f.c3 (dA s w));obtain ⟨e2,he2⟩:=aL (wq s.aj c f.c4 (dA s w));obtain ⟨V,hV⟩:=aL (zo s.aU c f.c3 (dA s w));obtain ⟨U,hU⟩:=aL (oE s.aj c f.c4 (dA s w));rw [<- hV] at c6 hG hlv;rw [<- hU] at c7 hG hla;rw [<- he1] at c6;rw [<- he2] at c7;rw [<- he1,<- he2] at hR;have m1:=cM ⟨1,0,c⟩ ⟨2,w,c⟩ (tc s w c);have m2:=cM ⟨5,0,c⟩ ⟨2,w,c⟩ gain;have m3:=cM ⟨6,0,c⟩ ⟨2,w,c⟩ f.gM;have m4:=cM ⟨2,w,c⟩ ⟨6,0,c⟩ f.c0;have m5:=cM ⟨3,w,c⟩ ⟨6,0,c⟩ f.c1;have m6:=cM ⟨4,0,c⟩ ⟨6,0,c⟩ f.c2;have m7:=cM ⟨2,w,c⟩ ⟨1,0,c⟩ x;have m8:=cM ⟨3,w,c⟩ ⟨1,0,c⟩ y;obtain ⟨A1,hA1⟩:∃ A,A=bN ⟨1,0,c⟩ ⟨2,w,c⟩ (tc s w c):=⟨_,rfl⟩
 obtain ⟨A2,hA2⟩:∃ A,A=bN ⟨5,0,c⟩ ⟨2,w,c⟩ gain:=⟨_,rfl⟩
 obtain ⟨A3,hA3⟩:∃ A,A=bN ⟨6,0,c⟩ ⟨2,w,c⟩ f.gM:=⟨_,rfl⟩
 obtain ⟨A4,hA4⟩:∃ A,A=bN ⟨2,w,c⟩ ⟨6,0,c⟩ f.c0:=⟨_,rfl⟩
 obtain ⟨A5,hA5⟩:∃ A,A=bN ⟨3,w,c⟩ ⟨6,0,c⟩ f.c1:=⟨_,rfl⟩
 obtain ⟨A6,hA6⟩:∃ A,A=bN ⟨4,0,c⟩ ⟨6,0,c⟩ f.c2:=⟨_,rfl⟩
 obtain ⟨A7,hA7⟩:∃ A,A=bN ⟨2,w,c⟩ ⟨1,0,c⟩ x:=⟨_,rfl⟩
 obtain ⟨A8,hA8⟩:∃ A,A=bN ⟨3,w,c⟩ ⟨1,0,c⟩ y:=⟨_,rfl⟩
 have z1:A1.length=2:=by rw [hA1];rfl
 have z2:A2.length=2:=by rw [hA2];rfl
 have z3:A3.length=2:=by rw [hA3];rfl
 have z4:A4.length=2:=by rw [hA4];rfl
 have z5:A5.length=2:=by rw [hA5];rfl
 have z6:A6.length=2:=by rw [hA6];rfl
 have z7:A7.length=2:=by rw [hA7];rfl
 have z8:A8.length=2:=by rw [hA8];rfl
 rw [<- hA1,<- hA2,<- hA3,<- hA4,<- hA5,<- hA6,<- hA7,<- hA8] at hG;rw [<- hA1] at m1;rw [<- hA2] at m2;rw [<- hA3] at m3;rw [<- hA4] at m4;rw [<- hA5] at m5;rw [<- hA6] at m6;rw [<- hA7] at m7;rw [<- hA8] at m8;have hmap:G.map aW.cells=A1.map aW.cells++A2.map aW.cells++A3.map aW.cells++A4.map aW.cells++A5.map aW.cells++A6.map aW.cells++V.map aW.cells++U.map aW.cells++A7.map aW.cells++A8.map aW.cells:=by rw [hG];simp only [List.map_append]
 rw [hmap] at cJ;simp only [aH.cells] at m1 m2 m3 m4 m5 m6 m7 m8;simp only [bq.cells] at c6;simp only [au.cells] at c7;simp only [af.cells] at c5 cSold |-;simp only [dM.cells];simp only [ints,List.map_cons,List.map_nil] at c8;rw [hcaps];have hcl:(ints (a :: b :: rest)).length=rest.length+2:=by rw [ay];rfl
 have hca:=ints_at (a :: b :: rest) (i:=0) (by simp);have hcb:=ints_at (a :: b :: rest) (i:=1) (by simp);simp only [List.getElem_cons_zero,List.getElem_cons_succ] at hca hcb;have hp0:(0:Int) < ((rest.length+2:Nat):Int):=by omega
 have hp1:(1:Int) < ((rest.length+2:Nat):Int):=by omega
 obtain ⟨cp,hcp⟩:=aL (ints (a :: b :: rest));rw [<- hcp] at hcl hca hcb |-;clear cM hA1 hA2 hA3 hA4 hA5 hA6 hA7 hA8 hV hU he1 he2 hxd hyd hcp hcaps hG hmap hol hmv;refine bg 171 6 [.tmp 12,.tmp 13,.tmp 14] mixed Tryz.func150 ?_;simp only [go_sem,seval];(with_reducible and_intros)<;>first|exact .dq|omega|skip
 refine aa.pure cSold ?_;simp only [go_sem,seval];(with_reducible and_intros)<;>first|exact .dq|omega|skip
 refine aa.pure (cA 2 w) ?_;simp only [go_sem,seval];(with_reducible and_intros)<;>first|exact .dq|omega|skip
 refine aa.pure (cA 1 0) ?_;simp only [go_sem,seval];(with_reducible and_intros)<;>first|exact .dq|omega|skip
 refine aa.pure (cA 6 0) ?_;simp only [go_sem,seval];(with_reducible and_intros)<;>first|exact .dq|omega|skip
 refine aa.pure (cA 3 w) ?_;simp only [go_sem,seval];(with_reducible and_intros)<;>first|exact .dq|omega|skip
 refine aa.pure m1 ?_;simp only [go_sem,seval,aG,z1];(with_reducible and_intros)<;>first|exact .dq|omega|skip
 refine aa.pure (cA 5 0) ?_;simp only [go_sem,seval];(with_reducible and_intros)<;>first|exact .dq|omega|skip
 refine aa.pure m2 ?_;simp only [go_sem,seval,aG,List.length_append,z1,z2];(with_reducible and_intros)<;>first|exact .dq|omega|skip
 refine aa.pure m3 ?_;simp only [go_sem,seval,aG,List.length_append,z1,z2,z3];(with_reducible and_intros)<;>first|exact .dq|omega|skip
 refine aa.pure m4 ?_;simp only [go_sem,seval,aG,List.length_append,z1,z2,z3,z4];(with_reducible and_intros)<;>first|exact .dq|omega|skip
 refine aa.pure m5 ?_;simp only [go_sem,seval,aG,List.length_append,z1,z2,z3,z4,z5];(with_reducible and_intros)<;>first|exact .dq|omega|skip
 refine aa.pure (cA 4 0) ?_;simp only [go_sem,seval];(with_reducible and_intros)<;>first|exact .dq|omega|skip
 refine aa.pure m6 ?_;simp only [go_sem,seval,aG,List.length_append,z1,z2,z3,z4,z5,z6];(with_reducible and_intros)<;>first|exact .dq|omega|skip
 refine aa.pure c5 ?_;simp only [go_sem,seval];(with_reducible and_intros)<;>first|exact .dq|omega|skip
 refine aa.pure c6 ?_
 by_cases k1:e1=0
 case neg =>
  have d:(e1==0)=false:=by simpa using k1
  rw [if_neg k1] at hR;rw [hR];simp only [go_sem,seval,bne,d]<;>simp
 rw [if_pos k1] at hR;rw [k1];simp only [go_sem,seval];(with_reducible and_intros)<;>first|exact .dq|omega|skip
 refine aa.pure c5 ?_;simp only [go_sem,seval];(with_reducible and_intros)<;>first|exact .dq|omega|skip
 refine aa.pure c7 ?_
 by_cases k2:e2=0
 case neg =>
  have d:(e2==0)=false:=by simpa using k2
  rw [if_neg k2] at hR;rw [hR];simp only [go_sem,seval,bne,d]<;>simp
 rw [if_pos k2] at hR;rw [k2];simp only [go_sem,seval,aG,List.length_append,z1,z2,z3,z4,z5,z6,hcl,hca,hcb,hw1,hw2];(with_reducible and_intros)<;>first|exact .dq|omega|skip
 refine aa.pure m7 ?_;simp only [go_sem,seval,aG,List.length_append,z1,z2,z3,z4,z5,z6,z7];(with_reducible and_intros)<;>first|exact .dq|omega|skip
 refine aa.pure m8 ?_;simp only [go_sem,seval,aG,List.length_append,z1,z2,z3,z4,z5,z6,z7,z8];(with_reducible and_intros)<;>first|exact .dq|omega|skip
 refine aa.gen [] [] true (by simp) ?_;simp only [go_sem,seval];refine aY.intro c8 ?_;cases k3:bP (x+y)
 ·rw [k3,if_neg (by simp)] at hR;rw [hR];simp only [go_sem,seval,k3]<;>simp
 rw [k3,if_pos rfl] at hR;rw [hadd k3,hR];simp only [go_sem,seval,k3];(with_reducible and_intros)<;>first|exact .dq|omega|skip
 refine aa.gen [2464] [] false (by simp) ?_;simp only [go_sem,seval];refine aY.intro cJ ?_;simp only [go_sem,seval]
 all_goals (with_reducible and_intros)<;>first|exact .dq|omega|skip
end Go.Proofs.YtnkobepdbkmedaaGreat
