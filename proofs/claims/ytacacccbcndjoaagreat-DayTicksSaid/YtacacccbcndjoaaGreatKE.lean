/- Sums of quantities, of money, and what follows. No theorem of a claim. -/
import Derived.Test.YtacacccbcndjoaaGreatKD
set_option linter.unusedSimpArgs false
set_option linter.unusedVariables false
set_option maxHeartbeats 4000000
set_option maxRecDepth 16000
namespace Go.Proofs.YtacacccbcndjoaaGreat
open Go.Abs
theorem LM (ks:List Int) (k:Int) (hl:ks.length < 2 ^ 62):Abs.Spec Tryz.prog 129 [] [.sl 1 (ints ks),.int .i64 k] [] (.int .i64 (iG id k ks)):=by
 refine aU 19 2 [.tmp 4] mixed Tryz.func129 ?_;simp only [go_sem,seval,az];refine aB.walk (S:=Unit) ks.length [0,1,7] [] (fun i _=>[(8,.int .i64 i)]) (fun i _=>[]) (fun i _=>∀ j (hj:j < ks.length),j < i->id ks[j]≠k) () (by intros;omega) ?_ ?_ ?_
 ·simp only [go_sem,seval]<;>simp
 ·intro i _ hi hdi hw hI;have hli:(i:Int) < (ks.length:Int):=by omega
  simp only [go_sem,seval,hdi,az,ints_at ks hi];(with_reducible and_intros)<;>first|exact .dq|omega|skip
  cases hb:k==ks[i]
  ·have hb2:id ks[i]≠k:=fun h=>by simp only [id] at h;rw [h] at hb;simp at hb
   simp only [go_sem,seval,hw];refine ah.step () hi ?_ ?_
   ·intro j hj hji;rcases Nat.lt_or_ge j i with h | h
    ·exact hI j hj h
    ·obtain rfl:j=i:=by omega
     exact hb2
   ·simp only [go_sem,seval]
  ·have hb2:id ks[i]=k:=by simp only [id];have:=DF hb;omega
   obtain ⟨g1,g2⟩:=iV (z:=(0:Int)) hi hI hb2;rw [g2];simp only [go_sem,seval]
 ·intro _ hdx hI;obtain ⟨g1,g2⟩:=gB (z:=(0:Int)) (fun j hj=>hI j hj hj);rw [g2];simp only [go_sem,seval,hdx]
theorem uc {A:Type} {no:A->Int} {n:Int}:∀ {xs:List A},decide (0<=iG no n xs)=xs.any (fun x=>no x==n)
 | []=>by simp [iG]
 | x :: r=>by
  have ih:=uc (no:=no) (n:=n) (xs:=r);rw [Bool.eq_iff_iff,decide_eq_true_iff] at ih |-;rw [List.any_cons,Bool.or_eq_true,<- ih,beq_iff_eq];simp only [iG];split
  ·simp [*]
  ·rename_i h1;split
   ·exact ⟨fun h=>by omega,fun h=>by rcases h with h | h;exact (h1 h).elim;omega⟩
   ·exact ⟨fun _=>.inr (by omega),fun h=>by omega⟩
theorem Eo (ks:List Int) (k:Int) (hl:ks.length < 2 ^ 62):Abs.Spec Tryz.prog 48 [] [.sl 1 (ints ks),.int .i64 k] [] (.bool (qg ks k)):=by
 have h:=LM ks k hl;have e:decide (0<=iG id k ks)=qg ks k:=by rw [uc];rfl
 refine aU 9 2 [.tmp 4] mixed Tryz.func48 ?_;simp only [go_sem,seval];refine aa.pure h ?_;simp only [go_sem,seval,e]
theorem eT:∀ l m:List Int,aC (l++m)=aC l+aC m
 | [],m=>by simp [aC]
 | x :: l,m=>by simp only [List.cons_append,aC,eT l m];omega
def ak.zero:ak:=⟨0,0,0⟩
theorem Ad (xs:List ak) (n:Int) (hl:xs.length < 2 ^ 62):Abs.Spec Tryz.prog 130 [] [.sl 3 (xs.map ak.cells),.fn 53 [],.int .i64 n] [] (.bD [.agg (fP ak.no n ak.zero xs).cells,.int .i64 (iG ak.no n xs)]):=by
 refine aU 27 3 [.cell 6 50,.tmp 7] mixed Tryz.func130 ?_;simp only [go_sem,seval,aI];refine aB.walk (S:=Unit) xs.length [1,2,6,11,12] [112,208] (fun i _=>[(13,.int .i64 i)]) (fun i _=>[]) (fun i _=>∀ j (hj:j < xs.length),j < i->xs[j].no≠n) () (by intros;omega) ?_ ?_ ?_
 ·simp only [go_sem,seval]<;>simp
 ·intro i _ hi hdi hw hI;have hm:=aD (c:=ak.cells) xs hi;have hno:=lT xs[i];simp only [ak.cells] at hm hno |-;simp only [go_sem,seval,hdi,hm];(with_reducible and_intros)<;>first|exact .dq|omega|skip
  refine aa.pure hno ?_;cases hb:xs[i].no==n
  ·have hb2:xs[i].no≠n:=by simpa using hb
   simp only [go_sem,seval,hb,hw];refine ah.step () hi ?_ ?_
   ·intro j hj hji;rcases Nat.lt_or_ge j i with h | h
    ·exact hI j hj h
    ·obtain rfl:j=i:=by omega
     exact hb2
   ·simp only [go_sem,seval]
  ·have hb2:xs[i].no=n:=by simpa using hb
   obtain ⟨g1,g2⟩:=iV (z:=ak.zero) hi hI hb2;rw [g1,g2];simp only [go_sem,seval,hb]
 ·intro _ hdx hI;obtain ⟨g1,g2⟩:=gB (z:=ak.zero) (fun j hj=>hI j hj hj);rw [g1,g2];simp only [go_sem,seval,hdx,ak.cells,ak.zero]
def eV (r:aq) (n:Int):ak:=fP ak.no n ak.zero r.ms
def eo (r:aq) (n:Int):Bool:=decide (0<=iG ak.no n r.ms)
def bq (r:aq) (n:Int):Int:=(eV r n).state
theorem rD (r:aq) (n:Int) (hl:r.small):Abs.Spec Tryz.prog 49 [] [.agg r.cells,.int .i64 n] [] (.bD [.agg (eV r n).cells,.bool (eo r n)]):=by
 have h:=Ad r.ms n (by have:=hl.1;omega);obtain ⟨g,hg⟩:=aO (fP ak.no n ak.zero r.ms);simp only [eV,eo];rw [<- hg] at h |-;simp only [ak.cells] at h |-;simp only [aq.cells];refine aU 18 2 [.cell 4 50,.tmp 5] mixed Tryz.func49 ?_;simp only [go_sem,seval];refine aa.pure h ?_;simp only [go_sem,seval]
theorem su (s:af) (n:Int) (hl:s.aj.small):Abs.Spec Tryz.prog 120 [] [.int .i64 n,.bI s.cells] [] (.int .i64 (bq s.aj n)):=by
 have h:=rD s.aj n hl;simp only [bq];obtain ⟨g,hg⟩:=aO (eV s.aj n);rw [<- hg] at h |-;simp only [aq.cells,ak.cells] at h;simp only [af.cells];refine aU 15 2 [.tmp 3] mixed Tryz.func120 ?_;simp only [go_sem,seval];(with_reducible and_intros)<;>first|exact .dq|omega|skip
 refine aa.pure h ?_;simp only [go_sem,seval]
theorem Ip (s:af) (n:Int) (hl:s.aj.small):Abs.Spec Tryz.prog 121 [] [.int .i64 n,.bI s.cells] [] (.bool (bf s.aj n)):=by
 have h:=Es s.aj n hl;obtain ⟨g,hg⟩:=aO (aV s.aj n);rw [<- hg] at h;simp only [aq.cells,ay.cells] at h;simp only [af.cells];refine aU 14 2 [.tmp 3] mixed Tryz.func121 ?_;simp only [go_sem,seval];(with_reducible and_intros)<;>first|exact .dq|omega|skip
 refine aa.pure h ?_;simp only [go_sem,seval]
def u5 (r:aq) (n:Int):Bool:=bq r n==1||bq r n==2
theorem JQ (s:af) (n:Int) (hl:s.aj.small):Abs.Spec Tryz.prog 123 [] [.int .i64 n,.bI [.fn 120 [.bI s.cells]]] [] (.bool (u5 s.aj n)):=by
 have h:=su s n hl;simp only [af.cells] at h |-;refine aU 14 2 [.tmp 3] mixed Tryz.func123 ?_;simp only [go_sem,seval];(with_reducible and_intros)<;>first|exact .dq|omega|skip
 refine aa.pure h ?_;cases b1:bq s.aj n==1
 ·simp only [go_sem,seval,b1];(with_reducible and_intros)<;>first|exact .dq|omega|skip
  refine aa.pure h ?_;simp only [go_sem,seval,u5,b1,Bool.false_or]
 ·simp only [go_sem,seval,u5,b1,Bool.true_or]
theorem Ko (s:af) (c:au) (hl:s.aj.small):Abs.Spec Tryz.prog 126 [] [.agg c.cells,.bI [.fn 120 [.bI s.cells]]] [] (.bool (!(bq s.aj c.who==1))):=by
 have h:=su s c.who hl;simp only [af.cells] at h |-;simp only [au.cells];refine aU 10 2 [.tmp 3] mixed Tryz.func126 ?_;simp only [go_sem,seval];(with_reducible and_intros)<;>first|exact .dq|omega|skip
 refine aa.pure h ?_;simp only [go_sem,seval,bne]
theorem AM (s:af) (cs:List au) (hl:s.aj.small) (hc:cs.length < 2 ^ 60):Abs.Spec Tryz.prog 200 [] [.sl 4 (cs.map au.cells),.fn 126 [.bI [.fn 120 [.bI s.cells]]]] [] (.int .i64 (iG (fun c:au=>if bq s.aj c.who==1 then 0 else 1) 1 cs)):=by
 have h:=fun c=>Ko s c hl
 simp only [af.cells,au.cells] at h |-;refine aU 19 2 [.tmp 4] mixed Tryz.func200 ?_;simp only [go_sem,seval,aI];refine aB.walk (S:=Unit) cs.length [0,1,7] [] (fun i _=>[(8,.int .i64 i)]) (fun i _=>[]) (fun i _=>∀ j (hj:j < cs.length),j < i->(if bq s.aj cs[j].who==1 then (0:Int) else 1)≠1) () (by intros;omega) ?_ ?_ ?_
 ·simp only [go_sem,seval]<;>simp
 ·intro i _ hi hdi hw hI;have hm:=aD (c:=au.cells) cs hi;have hli:(i:Int) < (cs.length:Int):=by omega
  have hc:=h cs[i];simp only [au.cells] at hm;simp only [go_sem,seval,hdi,aI,hm];(with_reducible and_intros)<;>first|exact .dq|omega|skip
  refine aa.pure hc ?_;cases hb:bq s.aj cs[i].who==1
  ·obtain ⟨g1,g2⟩:=iV (no:=fun c:au=>if bq s.aj c.who==1 then (0:Int) else 1) (n:=1) (z:=(⟨0,0,0,0⟩:au)) hi hI (by simp [hb]);rw [g2];simp only [go_sem,seval,hb]
  ·simp only [go_sem,seval,hb,hw];refine ah.step () hi ?_ ?_
   ·intro j hj hji;rcases Nat.lt_or_ge j i with h | h
    ·exact hI j hj h
    ·obtain rfl:j=i:=by omega
     simp [hb]
   ·simp only [go_sem,seval]
 ·intro _ hdx hI;obtain ⟨g1,g2⟩:=gB (no:=fun c:au=>if bq s.aj c.who==1 then (0:Int) else 1) (n:=1) (z:=(⟨0,0,0,0⟩:au)) (fun j hj=>hI j hj hj);rw [g2];simp only [go_sem,seval,hdx]
def oT (r:aq) (c:au):Bool:=bq r c.who==1
theorem wu (s:af) (cs:List au) (hl:s.aj.small) (hc:cs.length < 2 ^ 60):Abs.Spec Tryz.prog 125 [] [.sl 4 (cs.map au.cells),.fn 126 [.bI [.fn 120 [.bI s.cells]]]] [] (.bool (!cs.all (oT s.aj))):=by
 have h:=AM s cs hl hc
 have e:decide (0<=iG (fun c:au=>if bq s.aj c.who==1 then (0:Int) else 1) 1 cs) = !cs.all (oT s.aj):=by
  rw [uc,List.not_all_eq_any_not];congr 1
  funext c
  cases hb:bq s.aj c.who==1<;>simp [oT,hb]
 simp only [af.cells] at h |-;refine aU 9 2 [.tmp 4] mixed Tryz.func125 ?_;simp only [go_sem,seval];refine aa.pure h ?_;simp only [go_sem,seval,e]
def Dq (r:aq) (p:aA):Bool:=u5 r p.who&&bf r p.inst
def uy (r:aq) (t:aL):Bool:=!(bq r t.fZ==0)&&(!(bq r t.dY==0)&&bf r t.inst)
def jr (r:aq) (n:Int):Bool:=decide (0<=iG av.a n r.xs)
def sG (r:aq) (p:eW):Bool:=u5 r p.who&&jr r p.bF
def lN (s:af):Bool:=s.book.qs.all (Dq s.aj)&&(s.book.ts.all (uy s.aj)&&(s.ps.all (sG s.aj)&&s.calls.all (oT s.aj)))
theorem qV {A:Type} {f:A->Bool} {xs:List A} {i:Nat} (h:i < xs.length) (hn:f xs[i]=false):xs.all f=false:=by
 cases hc:xs.all f
 ·rfl
 ·rw [List.all_eq_true.1 hc _ (List.getElem_mem h)] at hn;cases hn
theorem nj {A:Type} {f:A->Bool} {xs:List A} (h:∀ j (hj:j < xs.length),j < xs.length->f xs[j]=true):xs.all f=true:=List.all_eq_true.2 fun x hx=>by
 obtain ⟨j,hj,rfl⟩:=List.mem_iff_getElem.1 hx;exact h j hj hj
theorem ku {A:Type} {f:A->Bool} {xs:List A} {i:Nat} (hi:i < xs.length) (hI:∀ j (hj:j < xs.length),j < i->f xs[j]=true) (h0:f xs[i]=true):∀ j (hj:j < xs.length),j < i+1->f xs[j]=true:=fun j hj hji=>by
 rcases Nat.lt_or_ge j i with h | h
 ·exact hI j hj h
 ·obtain rfl:j=i:=by omega
  exact h0
theorem Lt (s:af) (hs:s.fit) (hc:s.calls.length < 2 ^ 30):Abs.Spec Tryz.prog 36 [] [.agg s.cells] [] (.bool (lN s)):=by
 obtain ⟨hl,hb,_,hp⟩:=hs;obtain ⟨hb1,hb2⟩:=hb;have k2:=fun n=>Ip s n hl
 have k1:=fun n=>su s n hl
 have k3:=fun n=>JQ s n hl
 have kA:=fun n=>CU s.aj n hl
 have kC:=wu s s.calls hl (by omega);simp only [aq.cells] at kA;simp only [af.cells] at k1 k2 k3 kC |-;refine aU 98 1 [.tmp 2] mixed Tryz.func36 ?_;simp only [go_sem,seval,aI];refine aB.walk (S:=Unit) s.book.qs.length [1,3,4,5,19,20] [32,64,256,272,336] (fun i _=>[(21,.int .i64 i)]) (fun i _=>[]) (fun i _=>∀ j (hj:j < s.book.qs.length),j < i->Dq s.aj s.book.qs[j]=true) () (by intros;omega) ?_ ?_ ?_
 ·simp only [go_sem,seval]<;>simp
 ·intro i _ hi hdi hw hI;have hm:=aD (c:=aA.cells) s.book.qs hi;have e0:=ku hi hI;have e1:Dq s.aj s.book.qs[i]=false->lN s=false:=fun h=>by simp [lN,qV hi h]
  simp only [aA.cells] at hm;simp only [go_sem,seval,hdi,hm];(with_reducible and_intros)<;>first|exact .dq|omega|skip
  refine aa.gen [] [] true (by simp) ?_;simp only [go_sem,seval];refine bg.intro (k3 s.book.qs[i].who) ?_;cases b1:u5 s.aj s.book.qs[i].who
  ·have:=e1 (by simp [Dq,b1]);simp only [go_sem,seval,b1,this]
  simp only [go_sem,seval,b1];refine aa.gen [] [] true (by simp) ?_;simp only [go_sem,seval];refine bg.intro (k2 s.book.qs[i].inst) ?_;cases b2:bf s.aj s.book.qs[i].inst
  ·have:=e1 (by simp [Dq,b1,b2]);simp only [go_sem,seval,b2,this]
  simp only [go_sem,seval,b2,hw];refine ah.step () hi (e0 (by simp [Dq,b1,b2])) ?_;simp only [go_sem,seval]
 intro _ hdx hI;have hA:=nj hI;have eA:lN s=(s.book.ts.all (uy s.aj)&&(s.ps.all (sG s.aj)&&s.calls.all (oT s.aj))):=by simp [lN,hA]
 rw [eA];clear eA hA hI;simp only [go_sem,seval,hdx,aI];clear hdx;refine aB.walk (S:=Unit) s.book.ts.length [1,3,4,5,42,43] [32,64,256,272,704] (fun i _=>[(44,.int .i64 i)]) (fun i _=>[]) (fun i _=>∀ j (hj:j < s.book.ts.length),j < i->uy s.aj s.book.ts[j]=true) () (by intros;omega) ?_ ?_ ?_
 ·simp only [go_sem,seval]<;>simp
 ·intro i _ hi hdi hw hI;have hm:=aD (c:=aL.cells) s.book.ts hi;have e0:=ku hi hI;have e1:uy s.aj s.book.ts[i]=false->(s.book.ts.all (uy s.aj)&&(s.ps.all (sG s.aj)&&s.calls.all (oT s.aj)))=false:=fun h=>by simp [qV hi h]
  simp only [aL.cells] at hm;simp only [go_sem,seval,hdi,hm];(with_reducible and_intros)<;>first|exact .dq|omega|skip
  refine aa.gen [] [] true (by simp) ?_;simp only [go_sem,seval];refine bg.intro (k1 s.book.ts[i].fZ) ?_;cases b1:bq s.aj s.book.ts[i].fZ==0
  case true =>
   have:=e1 (by simp only [uy,b1];rfl);simp only [go_sem,seval,b1,this]
  simp only [go_sem,seval,b1];refine aa.gen [] [] true (by simp) ?_;simp only [go_sem,seval];refine bg.intro (k1 s.book.ts[i].dY) ?_;cases b2:bq s.aj s.book.ts[i].dY==0
  case true =>
   have:=e1 (by simp only [uy,b1,b2];rfl);simp only [go_sem,seval,b2,this]
  simp only [go_sem,seval,b2];refine aa.gen [] [] true (by simp) ?_;simp only [go_sem,seval];refine bg.intro (k2 s.book.ts[i].inst) ?_;cases b3:bf s.aj s.book.ts[i].inst
  ·have:=e1 (by simp only [uy,b1,b2,b3];rfl);simp only [go_sem,seval,b3,this]
  simp only [go_sem,seval,b3,hw];refine ah.step () hi (e0 (by simp only [uy,b1,b2,b3];rfl)) ?_;simp only [go_sem,seval]
 intro _ hdx hI;have hA:=nj hI;rw [hA,Bool.true_and];clear hA hI;have hpl:(pl s.ps).length=s.ps.length:=nF s.ps;simp only [go_sem,seval,hdx];clear hdx;refine aB.walk (S:=Unit) s.ps.length [1,3,5,69,70] [32,64,272,1136] (fun i _=>[(71,.int .i64 i)]) (fun i _=>[]) (fun i _=>∀ j (hj:j < s.ps.length),j < i->sG s.aj s.ps[j]=true) () (by intros;omega) ?_ ?_ ?_
 ·simp only [go_sem,seval]<;>simp
 ·intro i _ hi hdi hw hI;have hm:=jX s.ps hi;have e0:=ku hi hI;have e1:sG s.aj s.ps[i]=false->(s.ps.all (sG s.aj)&&s.calls.all (oT s.aj))=false:=fun h=>by simp [qV hi h]
  have hA:=kA s.ps[i].bF;obtain ⟨g,hg⟩:=aO (fP av.a s.ps[i].bF ⟨0,0,0,0⟩ s.aj.xs);have hAe:decide (0<=iG av.a s.ps[i].bF s.aj.xs)=jr s.aj s.ps[i].bF:=rfl;rw [<- hg,hAe] at hA;simp only [av.cells] at hA;simp only [go_sem,seval,hdi,hm];(with_reducible and_intros)<;>first|exact .dq|omega|skip
  refine aa.pure hA ?_;simp only [go_sem,seval];refine aa.gen [] [] true (by simp) ?_;simp only [go_sem,seval];refine bg.intro (k3 s.ps[i].who) ?_;cases b1:u5 s.aj s.ps[i].who
  ·have:=e1 (by simp only [sG,b1];rfl);simp only [go_sem,seval,b1,this]
  cases b2:jr s.aj s.ps[i].bF
  ·have:=e1 (by simp only [sG,b1,b2];rfl);simp only [go_sem,seval,b1,b2,this]
  simp only [go_sem,seval,b1,b2,hw];refine ah.step () hi (e0 (by simp only [sG,b1,b2];rfl)) ?_;simp only [go_sem,seval]
 intro _ hdx hI;have hA:=nj hI;rw [hA,Bool.true_and];clear hA hI;simp only [go_sem,seval,hdx];refine aa.gen [32,64] [] true (by simp) ?_;simp only [go_sem,seval];refine bg.intro kC ?_;simp only [go_sem,seval,Bool.not_not]
def Kc (x y:Int):Int:=if x < y then -1 else if y < x then 1 else 0
theorem CK (x:Int):Abs.Spec Tryz.prog 210 [] [.int .i64 x] [] (.bool false):=by
 refine aU 6 1 [.tmp 2] mixed Tryz.func210 ?_;simp only [go_sem,seval,bne,beq_self_eq_true,Bool.not_true]
theorem rP (x y:Int):Abs.Spec Tryz.prog 140 [] [.int .i64 x,.int .i64 y] [] (.int .i64 (Kc x y)):=by
 have h1:=CK x;have h2:=CK y;refine aU 20 2 [.tmp 4] mixed Tryz.func140 ?_;simp only [go_sem,seval];refine aa.pure h1 ?_;simp only [go_sem,seval];refine aa.pure h2 ?_;simp only [Kc];rcases Int.lt_or_le x y with h | h
 ·have d:decide (x < y)=true:=decide_eq_true h;simp only [go_sem,seval,d,if_pos h]
 ·have d:decide (x < y)=false:=decide_eq_false (by omega);rw [if_neg (by omega)];rcases Int.lt_or_le y x with h3 | h3
  ·have d2:decide (y < x)=true:=decide_eq_true h3;simp only [go_sem,seval,d,d2,if_pos h3]
  ·have d2:decide (y < x)=false:=decide_eq_false (by omega);simp only [go_sem,seval,d,d2,if_neg (show ¬ y < x by omega)]
def Sa:List Int->Int
 | []=>0
 | x :: xs=>if x=0 then Sa xs else x
theorem J3 (xs:List Int) (hn:xs.length < 2 ^ 60):Abs.Spec Tryz.prog 139 [] [.sl 1 (ints xs)] [] (.int .i64 (Sa xs)):=by
 refine aU 18 1 [.tmp 2] mixed Tryz.func139 ?_;simp only [go_sem,seval,az];refine aB.walk (S:=Unit) xs.length [3,6,7] [128] (fun i _=>[(8,.int .i64 i)]) (fun i _=>[]) (fun i _=>Sa (xs.drop i)=Sa xs) () (by simp) ?_ ?_ ?_
 ·simp only [go_sem,seval]<;>simp
 ·intro i _ hi hdi hw hI;have hat:=ints_at xs hi;obtain ⟨x,hx⟩:=aO (xs[i]);have hd:Sa (xs.drop i)=if x=0 then Sa (xs.drop (i+1)) else x:=by rw [dJ hi,Sa,hx]
  rw [hd] at hI;rw [<- hx] at hat;simp only [go_sem,seval,az,hdi,hat];(with_reducible and_intros)<;>first|exact .dq|omega|skip
  cases hb:x==0
  ·have h0:x≠0:=by simpa using hb
   rw [if_neg h0] at hI;rw [hI] at hb;simp only [go_sem,seval,bne,hb,hI]
  ·have h0:x=0:=by simpa using hb
   rw [if_pos h0] at hI;simp only [go_sem,seval,bne,hb,hw];refine ah.step () hi hI ?_;simp only [go_sem,seval]
 ·intro _ hdx hI;rw [List.drop_length,Sa] at hI;simp only [go_sem,seval,az,hdx,<- hI]
theorem LX (x y:Int):Abs.Spec Tryz.prog 139 [] [.sl 1 [[.int .i64 x],[.int .i64 y]]] [] (.int .i64 (if x=0 then y else x)):=by
 have h:=J3 [x,y] (by simp)
 have e:Sa [x,y]=if x=0 then y else x:=by
  simp only [Sa];split<;>try rfl
  split<;>rename_i h<;>simp_all
 rw [e] at h;exact h
def bN (a b:au):Bool:=decide (a.who < b.who)||(a.who==b.who&&decide (a.cur < b.cur))
def CX (a:au) (w c:Int):Int:=if Kc a.who w=0 then Kc a.cur c else Kc a.who w
theorem Je (a b:au):decide (0<=CX a b.who b.cur) = !bN a b:=by
 rw [Bool.eq_iff_iff,decide_eq_true_iff];simp only [CX,Kc,bN,Bool.not_eq_true',Bool.or_eq_false_iff,decide_eq_false_iff_not,Bool.and_eq_false_iff,beq_eq_false_iff_ne]
 repeat' split
 all_goals omega
theorem yl (a:au) (w c:Int):Abs.Spec Tryz.prog 119 [] [.agg a.cells,.int .i64 w,.int .i64 c] [] (.int .i64 (CX a w c)):=by
 have h1:=rP a.who w;have h2:=rP a.cur c;have h3:=LX (Kc a.who w) (Kc a.cur c);simp only [au.cells];refine aU 19 3 [.tmp 6] mixed Tryz.func119 ?_;simp only [go_sem,seval];(with_reducible and_intros)<;>first|exact .dq|omega|skip
 refine aa.pure h1 ?_;simp only [go_sem,seval];(with_reducible and_intros)<;>first|exact .dq|omega|skip
 refine aa.pure h2 ?_;simp only [go_sem,seval];(with_reducible and_intros)<;>first|exact .dq|omega|skip
 refine aa.gen [] [] true (by simp) ?_;simp only [go_sem,seval];refine bg.intro h3 ?_;simp only [go_sem,seval,CX]
def bR (c:au):Bool:=(within c.who 1 16&&within c.cur 0 2)&&(within c.bX 1 4611686018427387904&&within c.till 0 1099511627776)
theorem Dd (w c:Int):Abs.Spec Tryz.prog 118 [] [.int .i64 w,.int .i64 c] [] (.bool (within w 1 16&&within c 0 2)):=by
 refine aU 19 2 [.tmp 4] mixed Tryz.func118 ?_;simp only [go_sem,seval]
 repeat' with_reducible first|apply And.intro|exact .dq|refine aa.pure (by assumption) ?_|refine .aH (fun h=>?_) fun h=>?_|refine .aF (fun h=>?_) fun h=>?_|refine .aK (fun h=>?_) fun h=>?_|refine .split (fun h=>?_) fun h=>?_|refine .id ?_|refine ah.next (by omega) ?_ ?_|exact trivial|simp only [*,go_sem,seval]
 all_goals (simp_all [within];try omega)
theorem xD (a b:aN):Abs.Spec Tryz.prog 243 [] [.agg a.cells,.agg b.cells] [] (.bool (decide (a.who < b.who)||(a.who==b.who&&decide (a.cur < b.cur)))):=by
 simp only [aN.cells];refine aU 24 2 [.tmp 4] mixed Tryz.func243 ?_;simp only [go_sem,seval]
 repeat' with_reducible first|apply And.intro|exact .dq|refine aa.pure (by assumption) ?_|refine .aH (fun h=>?_) fun h=>?_|refine .aF (fun h=>?_) fun h=>?_|refine .aK (fun h=>?_) fun h=>?_|refine .split (fun h=>?_) fun h=>?_|refine .id ?_|refine ah.next (by omega) ?_ ?_|exact trivial|simp only [*,go_sem,seval]
 all_goals (simp_all)
theorem CR (cs:List au) (hl:cs.length < 2 ^ 30):Abs.Spec Tryz.prog 35 [] [.sl 4 (cs.map au.cells)] [] (.int .i64 (if lV bR bN cs then 0 else 14)):=by
 refine aU 64 1 [.tmp 2] mixed Tryz.func35 ?_;simp only [go_sem,seval,aI];refine aB.count cs.length [0,5,6] [112] (fun i=>[(7,.int .i64 i)]) (fun i=>[]) (fun i=>∀ j < i,ke bR bN cs j=true) (by simp) ?_ ?_
 ·simp only [go_sem,seval]<;>simp
 intro i hi hI;simp only [go_sem,seval,aI];refine bH.aF (fun h=>?_) (fun h=>?_)
 ·have hi':i < cs.length:=by omega
  have hw:IntKind.wrap .i64 ((i:Int)+1)=((i+1:Nat):Int):=by rw [bz (by omega) (by omega)];omega
  have hm:=aD (c:=au.cells) cs hi';have e0:=nr (i:=i) hI;have e1:ke bR bN cs i=false->lV bR bN cs=false:=qX hi';have h1:=Dd cs[i].who cs[i].cur;have h2:Abs.Spec Tryz.prog 106 [] [.sl 1 [[.int .i64 cs[i].bX]]] [] (.bool (right [cs[i].bX])):=lg [cs[i].bX] (by simp);rw [p7] at h2;have hamt:(bS cs[i].bX&&!decide (cs[i].bX < 1))=within cs[i].bX 1 4611686018427387904:=by rw [Bool.eq_iff_iff];simp [bS,within];omega
  have htl:(!decide (cs[i].till < 0)&&!decide (1099511627776 < cs[i].till))=within cs[i].till 0 1099511627776:=by rw [Bool.eq_iff_iff];simp [within]
  simp only [au.cells] at hm;rcases Nat.eq_zero_or_pos i with rfl | hpos
  ·have hk:=gz (ok:=bR) (lt:=bN) hi';simp only [bR,<- hamt,<- htl] at hk;simp only [go_sem,seval,hm,aI]
   repeat' with_reducible first|apply And.intro|exact .dq|refine aa.pure (by assumption) ?_|refine aa.pure (h1) ?_|(refine aa.gen [] [] true (by simp) ?_;simp only [go_sem,seval];refine bg.intro h2 ?_)|refine .aH (fun h=>?_) fun h=>?_|refine .aF (fun h=>?_) fun h=>?_|refine .aK (fun h=>?_) fun h=>?_|refine .split (fun h=>?_) fun h=>?_|refine .id ?_|refine ah.next (by omega) ?_ ?_|exact trivial|simp only [*,go_sem,seval]
   all_goals first
    | omega
    | rfl
    | (refine e0 ?_;clear e0 e1;rw [hk];clear hk;simp_all;done)
    | (refine e0 ?_;clear e0 e1;rw [hk];clear hk;simp_all;omega)
    | (rw [e1 ?_];clear e0 e1;rw [hk];clear hk;simp_all;done)
    | (rw [e1 ?_];clear e0 e1;rw [hk];clear hk;simp_all;omega)
    | (rw [e1 ?_]
       ·rfl
       ·clear e0 e1;rw [hk];clear hk;simp_all;done)
    | (rw [e1 ?_]
       ·rfl
       ·clear e0 e1;rw [hk];clear hk;simp_all;omega)
  ·obtain ⟨j,rfl⟩:∃ j,i=j+1:=⟨i-1,by omega⟩
   have hj:j < cs.length:=by omega
   have hw1:IntKind.wrap .i64 (((j+1:Nat):Int)-1)=(j:Int):=by rw [bz (by omega) (by omega)];omega
   have hk:=fT (ok:=bR) (lt:=bN) hi';simp only [bR,<- hamt,<- htl] at hk;have hmj:=aD (c:=au.cells) cs hj;have h9:=yl cs[j] cs[j+1].who cs[j+1].cur;have hlt:=Je cs[j] cs[j+1];rw [hlt.symm.trans (by rfl:decide (0<=CX cs[j] cs[j+1].who cs[j+1].cur)=decide (0<=CX cs[j] cs[j+1].who cs[j+1].cur))] at hlt;simp only [au.cells] at h9;have hk2:bN cs[j] cs[j+1] = !decide (0<=CX cs[j] cs[j+1].who cs[j+1].cur):=by rw [Je,Bool.not_not]
   rw [hk2] at hk;clear hlt hk2;simp only [au.cells] at hmj;simp only [go_sem,seval,hm,aI]
   repeat' with_reducible first|apply And.intro|exact .dq|refine aa.pure (by assumption) ?_|refine aa.pure (h1) ?_|(refine aa.gen [] [] true (by simp) ?_;simp only [go_sem,seval];refine bg.intro h2 ?_)|refine aa.pure (h9) ?_|refine .aH (fun h=>?_) fun h=>?_|refine .aF (fun h=>?_) fun h=>?_|refine .aK (fun h=>?_) fun h=>?_|refine .split (fun h=>?_) fun h=>?_|refine .id ?_|refine ah.next (by omega) ?_ ?_|exact trivial|simp only [*,go_sem,seval,hmj,aI]
   all_goals first
    | omega
    | rfl
    | (refine e0 ?_;clear e0 e1;rw [hk];clear hk;simp_all;done)
    | (refine e0 ?_;clear e0 e1;rw [hk];clear hk;simp_all;omega)
    | (rw [e1 ?_];clear e0 e1;rw [hk];clear hk;simp_all;done)
    | (rw [e1 ?_];clear e0 e1;rw [hk];clear hk;simp_all;omega)
    | (rw [e1 ?_]
       ·rfl
       ·clear e0 e1;rw [hk];clear hk;simp_all;done)
    | (rw [e1 ?_]
       ·rfl
       ·clear e0 e1;rw [hk];clear hk;simp_all;omega)
 have hCH:=lY (fun j (hj:j < cs.length)=>hI j (by omega));clear hI;simp only [go_sem,seval,hCH]
theorem pJ (cs:List au) (hl:cs.length < 2 ^ 30):Abs.Spec Tryz.prog 215 [] [.sl 4 (cs.map au.cells)] [] (.bool (lV bR bN cs)):=by
 refine aU 56 1 [.tmp 2] mixed Tryz.func215 ?_;simp only [go_sem,seval,aI];refine aB.count cs.length [0] [] (fun i=>[(3,.int .i64 i)]) (fun i=>[]) (fun i=>∀ j < i,ke bR bN cs j=true) (by simp) ?_ ?_
 ·simp only [go_sem,seval]<;>simp
 intro i hi hI;simp only [go_sem,seval,aI];refine bH.aF (fun h=>?_) (fun h=>?_)
 ·have hi':i < cs.length:=by omega
  have hw:IntKind.wrap .i64 ((i:Int)+1)=((i+1:Nat):Int):=by rw [bz (by omega) (by omega)];omega
  have hm:=aD (c:=au.cells) cs hi';have e0:=nr (i:=i) hI;have e1:ke bR bN cs i=false->lV bR bN cs=false:=qX hi';have h1:=fD cs[i].who;have h2:=fH cs[i].cur;have h3:=eP cs[i].bX 1 4611686018427387904;have h4:=eP cs[i].till 0 1099511627776;simp only [au.cells] at hm;rcases Nat.eq_zero_or_pos i with rfl | hpos
  ·have hk:=gz (ok:=bR) (lt:=bN) hi';simp only [bR] at hk;simp only [go_sem,seval,hm,aI]
   repeat' with_reducible first|apply And.intro|exact .dq|refine aa.pure (by assumption) ?_|refine aa.pure (h1) ?_|refine aa.pure (h2) ?_|refine aa.pure (h3) ?_|refine aa.pure (h4) ?_|refine .aH (fun h=>?_) fun h=>?_|refine .aF (fun h=>?_) fun h=>?_|refine .aK (fun h=>?_) fun h=>?_|refine .split (fun h=>?_) fun h=>?_|refine .id ?_|refine ah.next (by omega) ?_ ?_|exact trivial|simp only [*,go_sem,seval]
   all_goals first
    | omega
    | rfl
    | (refine e0 ?_;clear e0 e1;rw [hk];clear hk;simp_all;done)
    | (refine e0 ?_;clear e0 e1;rw [hk];clear hk;simp_all;omega)
    | (rw [e1 ?_];clear e0 e1;rw [hk];clear hk;simp_all;done)
    | (rw [e1 ?_];clear e0 e1;rw [hk];clear hk;simp_all;omega)
    | (rw [e1 ?_]
       ·rfl
       ·clear e0 e1;rw [hk];clear hk;simp_all;done)
    | (rw [e1 ?_]
       ·rfl
       ·clear e0 e1;rw [hk];clear hk;simp_all;omega)
  ·obtain ⟨j,rfl⟩:∃ j,i=j+1:=⟨i-1,by omega⟩
   have hj:j < cs.length:=by omega
   have hw1:IntKind.wrap .i64 (((j+1:Nat):Int)-1)=(j:Int):=by rw [bz (by omega) (by omega)];omega
   have hk:=fT (ok:=bR) (lt:=bN) hi';simp only [bR] at hk;have hmj:=aD (c:=au.cells) cs hj;have h9:=xD ⟨cs[j].who,cs[j].cur,cs[j].bX⟩ ⟨cs[j+1].who,cs[j+1].cur,cs[j+1].bX⟩;simp only [aN.cells] at h9;simp only [bN] at hk;obtain ⟨lt,hlt⟩:=aO ((decide (cs[j].who < cs[j+1].who)||(cs[j].who==cs[j+1].who&&decide (cs[j].cur < cs[j+1].cur))));rw [<- hlt] at hk h9;clear hlt;simp only [au.cells] at hmj;simp only [go_sem,seval,hm,aI]
   repeat' with_reducible first|apply And.intro|exact .dq|refine aa.pure (by assumption) ?_|refine aa.pure (h1) ?_|refine aa.pure (h2) ?_|refine aa.pure (h3) ?_|refine aa.pure (h4) ?_|refine aa.pure (h9) ?_|refine .aH (fun h=>?_) fun h=>?_|refine .aF (fun h=>?_) fun h=>?_|refine .aK (fun h=>?_) fun h=>?_|refine .split (fun h=>?_) fun h=>?_|refine .id ?_|refine ah.next (by omega) ?_ ?_|exact trivial|simp only [*,go_sem,seval,hmj,aI]
   all_goals first
    | omega
    | rfl
    | (refine e0 ?_;clear e0 e1;rw [hk];clear hk;simp_all;done)
    | (refine e0 ?_;clear e0 e1;rw [hk];clear hk;simp_all;omega)
    | (rw [e1 ?_];clear e0 e1;rw [hk];clear hk;simp_all;done)
    | (rw [e1 ?_];clear e0 e1;rw [hk];clear hk;simp_all;omega)
    | (rw [e1 ?_]
       ·rfl
       ·clear e0 e1;rw [hk];clear hk;simp_all;done)
    | (rw [e1 ?_]
       ·rfl
       ·clear e0 e1;rw [hk];clear hk;simp_all;omega)
 have hCH:=lY (fun j (hj:j < cs.length)=>hI j (by omega));clear hI;simp only [go_sem,seval,hCH]
def oV (s:af):Bool:=within s.now 0 1099511627776&&(within s.day 0 1099511627776&&within s.phase 0 2)
theorem zE (a b c:Int):Abs.Spec Tryz.prog 30 [] [.agg [.int .i64 a,.int .i64 b,.int .i64 c]] [] (.bool (within a 0 1099511627776&&(within b 0 1099511627776&&within c 0 2))):=by
 refine aU 31 1 [.tmp 2] mixed Tryz.func30 ?_;simp only [go_sem,seval]
 repeat' with_reducible first|apply And.intro|exact .dq|refine aa.pure (by assumption) ?_|refine .aH (fun h=>?_) fun h=>?_|refine .aF (fun h=>?_) fun h=>?_|refine .aK (fun h=>?_) fun h=>?_|refine .split (fun h=>?_) fun h=>?_|refine .id ?_|refine ah.next (by omega) ?_ ?_|exact trivial|simp only [*,go_sem,seval]
 all_goals (simp_all [within];try omega)
def j5 (b:bp):Bool:=ot b.who b.inst&&(within b.src 1 16&&(within b.aX 1 1048576&&within b.aR 1 1073741824))
theorem Ex (b:bp):Abs.Spec Tryz.prog 37 [] [.agg b.cells] [] (.bool (j5 b)):=by
 simp only [bp.cells];refine aU 55 1 [.tmp 2] mixed Tryz.func37 ?_;simp only [go_sem,seval]
 repeat' with_reducible first|apply And.intro|exact .dq|refine aa.pure (by assumption) ?_|refine .aH (fun h=>?_) fun h=>?_|refine .aF (fun h=>?_) fun h=>?_|refine .aK (fun h=>?_) fun h=>?_|refine .split (fun h=>?_) fun h=>?_|refine .id ?_|refine ah.next (by omega) ?_ ?_|exact trivial|simp only [*,go_sem,seval]
 all_goals (simp_all [j5,ot,within];try omega)
def ff (x:bu):Bool:=within x.client 1 8&&within x.seq 1 1099511627776
def dD (a b:bu):Bool:=decide (a.client < b.client)
def bA (s:af):Bool:=oV s&&(s.aj.okB&&(s.book.okB&&(s.bE.okB&&(gj s.ps&&(lV bR bN s.calls&&(lN s&&(!decide (32 < (s.aT.length:Int))&&(s.aT.all j5&&lV ff dD s.aM))))))))
theorem rI (s:af) (hs:s.small):Abs.Spec Tryz.prog 10 [] [.agg s.cells] [] (.int .i64 (if bA s then 0 else 14)):=by
 have hfit:s.fit:=⟨hs.aj.small,hs.book,hs.bE,hs.ps⟩
 have c1:=zE s.now s.day s.phase;have c2:=nV s.aj hs.aj.small;have c3:=sV s.book hs.book;have c4:=Ej s.bE hs.bE;have c5:=Pm s.ps (by have:=hs.ps;omega);have c6:=CR s.calls hs.calls;have c7:=Lt s hfit hs.calls;have hbl:=hs.aT;have hsl:=hs.aM;clear hfit;simp only [aq.cells,aG.cells,bn.cells] at c2 c3 c4;simp only [af.cells] at c7 |-;refine aU 106 1 [.tmp 2] mixed Tryz.func10 ?_;simp only [go_sem,seval];refine aa.pure c1 ?_;cases b1:oV s
 ·have e:bA s=false:=by simp [bA,b1]
  simp only [oV] at b1;simp only [go_sem,seval,b1,e]<;>simp
 have b1':=b1;simp only [oV] at b1';simp only [go_sem,seval,b1'];refine aa.pure c2 ?_;cases b2:s.aj.okB
 ·have e:bA s=false:=by simp [bA,b2]
  simp only [go_sem,seval,e]<;>simp
 simp only [go_sem,seval];refine aa.pure c3 ?_;cases b3:s.book.okB
 ·have e:bA s=false:=by simp [bA,b3]
  simp only [go_sem,seval,e]<;>simp
 simp only [go_sem,seval];refine aa.pure c4 ?_;cases b4:s.bE.okB
 ·have e:bA s=false:=by simp [bA,b4]
  simp only [go_sem,seval,e]<;>simp
 simp only [go_sem,seval];refine aa.pure c5 ?_;cases b5:gj s.ps
 ·have e:bA s=false:=by simp [bA,b5]
  simp only [go_sem,seval,e]<;>simp
 simp only [go_sem,seval];refine aa.pure c6 ?_;cases b6:lV bR bN s.calls
 ·have e:bA s=false:=by simp [bA,b6]
  simp only [go_sem,seval,e]<;>simp
 simp only [go_sem,seval];refine aa.pure c7 ?_;cases b7:lN s
 ·have e:bA s=false:=by simp [bA,b7]
  simp only [go_sem,seval,e]<;>simp
 cases b8:decide (32 < (s.aT.length:Int))
 case true =>
  have e:bA s=false:=by simp [bA,b8]
  simp only [go_sem,seval,aI,b8,e]<;>simp
 have e:bA s=(s.aT.all j5&&lV ff dD s.aM):=by simp only [bA,b1,b2,b3,b4,b5,b6,b7,b8,Bool.true_and,Bool.not_false]
 rw [e];clear e c1 c2 c3 c4 c5 c6 c7 b1 b1' b2 b3 b4 b5 b6 b7;simp only [go_sem,seval,aI,b8];refine aB.walk (S:=Unit) s.aT.length [1,53,54] [32,880] (fun i _=>[(55,.int .i64 i)]) (fun i _=>[]) (fun i _=>∀ j (hj:j < s.aT.length),j < i->j5 s.aT[j]=true) () (by intros;omega) ?_ ?_ ?_
 ·simp only [go_sem,seval]<;>simp
 ·intro i _ hi hdi hw hI;have hm:=aD (c:=bp.cells) s.aT hi;have hb:=Ex s.aT[i];have e0:=ku hi hI;have e1:j5 s.aT[i]=false->(s.aT.all j5&&lV ff dD s.aM)=false:=fun h=>by simp [qV hi h]
  simp only [bp.cells] at hm hb;simp only [go_sem,seval,hdi,hm];(with_reducible and_intros)<;>first|exact .dq|omega|skip
  refine aa.pure hb ?_;cases b1:j5 s.aT[i]
  ·have:=e1 b1;simp only [go_sem,seval,this]<;>simp
  simp only [go_sem,seval,hw];refine ah.step () hi (e0 b1) ?_;simp only [go_sem,seval]
 intro _ hdx hI;have hA:=nj hI;rw [hA,Bool.true_and];clear hI hA;simp only [go_sem,seval,hdx,aI];clear hdx b8;refine aB.count s.aM.length [1,64,65] [32,1056] (fun i=>[(66,.int .i64 i)]) (fun i=>[]) (fun i=>∀ j < i,ke ff dD s.aM j=true) (by simp) ?_ ?_
 ·simp only [go_sem,seval]<;>simp
 intro i hi hI;simp only [go_sem,seval,aI];refine bH.aF (fun h=>?_) (fun h=>?_)
 ·have hi':i < s.aM.length:=by omega
  have hw:IntKind.wrap .i64 ((i:Int)+1)=((i+1:Nat):Int):=by rw [bz (by omega) (by omega)];omega
  have hm:=aD (c:=bu.cells) s.aM hi';have e0:=nr (i:=i) hI;have e1:ke ff dD s.aM i=false->lV ff dD s.aM=false:=qX hi'

  simp only [bu.cells] at hm;rcases Nat.eq_zero_or_pos i with rfl | hpos
  ·have hk:=gz (ok:=ff) (lt:=dD) hi';simp only [ff,dD,within] at hk;simp only [go_sem,seval,hm,aI]
   repeat' with_reducible first|apply And.intro|exact .dq|refine aa.pure (by assumption) ?_|refine .aH (fun h=>?_) fun h=>?_|refine .aF (fun h=>?_) fun h=>?_|refine .aK (fun h=>?_) fun h=>?_|refine .split (fun h=>?_) fun h=>?_|refine .id ?_|refine ah.next (by omega) ?_ ?_|exact trivial|simp only [*,go_sem,seval]
   all_goals first
    | omega
    | rfl
    | (refine e0 ?_;clear e0 e1;rw [hk];clear hk;simp_all;done)
    | (refine e0 ?_;clear e0 e1;rw [hk];clear hk;simp_all;omega)
    | (rw [e1 ?_];clear e0 e1;rw [hk];clear hk;simp_all;done)
    | (rw [e1 ?_];clear e0 e1;rw [hk];clear hk;simp_all;omega)
    | (rw [e1 ?_]
       ·rfl
       ·clear e0 e1;rw [hk];clear hk;simp_all;done)
    | (rw [e1 ?_]
       ·rfl
       ·clear e0 e1;rw [hk];clear hk;simp_all;omega)
  ·obtain ⟨j,rfl⟩:∃ j,i=j+1:=⟨i-1,by omega⟩
   have hj:j < s.aM.length:=by omega
   have hw1:IntKind.wrap .i64 (((j+1:Nat):Int)-1)=(j:Int):=by rw [bz (by omega) (by omega)];omega
   have hk:=fT (ok:=ff) (lt:=dD) hi';simp only [ff,dD,within] at hk;have hmj:=aD (c:=bu.cells) s.aM hj

   simp only [bu.cells] at hmj;simp only [go_sem,seval,hm,aI]
   repeat' with_reducible first|apply And.intro|exact .dq|refine aa.pure (by assumption) ?_|refine .aH (fun h=>?_) fun h=>?_|refine .aF (fun h=>?_) fun h=>?_|refine .aK (fun h=>?_) fun h=>?_|refine .split (fun h=>?_) fun h=>?_|refine .id ?_|refine ah.next (by omega) ?_ ?_|exact trivial|simp only [*,go_sem,seval,hmj,aI]
   all_goals first
    | omega
    | rfl
    | (refine e0 ?_;clear e0 e1;rw [hk];clear hk;simp_all;done)
    | (refine e0 ?_;clear e0 e1;rw [hk];clear hk;simp_all;omega)
    | (rw [e1 ?_];clear e0 e1;rw [hk];clear hk;simp_all;done)
    | (rw [e1 ?_];clear e0 e1;rw [hk];clear hk;simp_all;omega)
    | (rw [e1 ?_]
       ·rfl
       ·clear e0 e1;rw [hk];clear hk;simp_all;done)
    | (rw [e1 ?_]
       ·rfl
       ·clear e0 e1;rw [hk];clear hk;simp_all;omega)
 have hCH:=lY (fun j (hj:j < s.aM.length)=>hI j (by omega));clear hI;simp only [go_sem,seval,hCH]
theorem fG (a b c:Int):Abs.Spec Tryz.prog 183 [] [.int .i64 a,.int .i64 b,.int .i64 c] [] (.bool (within a b c)):=by
 refine aU 15 3 [.tmp 6] mixed Tryz.func183 ?_;simp only [go_sem,seval]
 repeat' with_reducible first|apply And.intro|exact .dq|refine aa.pure (by assumption) ?_|refine .aH (fun h=>?_) fun h=>?_|refine .aF (fun h=>?_) fun h=>?_|refine .aK (fun h=>?_) fun h=>?_|refine .split (fun h=>?_) fun h=>?_|refine .id ?_|refine ah.next (by omega) ?_ ?_|exact trivial|simp only [*,go_sem,seval]
 all_goals (simp only [within];simp<;>omega)
theorem bV (r:aq) (n:Int) (hl:r.small):Abs.Spec Tryz.prog 7 [] [.agg r.cells,.int .i64 n] [] (.bD [.agg (eV r n).cells,.bool (eo r n)]):=by
 obtain ⟨l1,l2,l3⟩:=hl;simp only [aq.cells];refine aU 28 2 [.cell 4 50,.tmp 5] mixed Tryz.func7 ?_;simp only [go_sem,seval,aI];refine aB.walk (S:=Unit) r.ms.length [1,2,4] [48,80] (fun i _=>[(6,.int .i64 i)]) (fun i _=>[]) (fun i _=>∀ j (hj:j < r.ms.length),j < i->r.ms[j].no≠n) () (by intros;omega) ?_ ?_ ?_
 ·simp only [go_sem,seval]<;>simp
 ·intro i _ hi hdi hw hI;have hm:=aD (c:=ak.cells) r.ms hi;have hlt:(i:Int) < (r.ms.length:Int):=by omega
  simp only [ak.cells] at hm |-;simp only [go_sem,seval,aI,hdi,hm];(with_reducible and_intros)<;>first|exact .dq|omega|skip
  cases hb:r.ms[i].no==n
  ·have hb2:r.ms[i].no≠n:=by simpa using hb
   simp only [go_sem,seval,hw];refine ah.step () hi ?_ ?_
   ·intro j hj hji;rcases Nat.lt_or_ge j i with h | h
    ·exact hI j hj h
    ·obtain rfl:j=i:=by omega
     exact hb2
   ·simp only [go_sem,seval]
  ·have hb2:r.ms[i].no=n:=by simpa using hb
   obtain ⟨g1,g2⟩:=iV (z:=ak.zero) hi hI hb2;have e1:eV r n=r.ms[i]:=g1;have e2:eo r n=true:=by simp [eo,g2]
   rw [e1,e2];simp only [go_sem,seval,hm,aI];(with_reducible and_intros)<;>first|exact .dq|omega|skip
 ·intro _ hdx hI;obtain ⟨g1,g2⟩:=gB (z:=ak.zero) (fun j hj=>hI j hj hj);have e1:eV r n=ak.zero:=g1;have e2:eo r n=false:=by simp [eo,g2]
  rw [e1,e2];simp only [go_sem,seval,aI,hdx,ak.cells,ak.zero]
theorem l7 (s:af) (n:Int) (hl:s.aj.small):Abs.Spec Tryz.prog 235 [] [.agg s.cells,.int .i64 n] [] (.int .i64 (bq s.aj n)):=by
 have h:=bV s.aj n hl;simp only [bq];obtain ⟨g,hg⟩:=aO (eV s.aj n);rw [<- hg] at h |-;simp only [aq.cells,ak.cells] at h;simp only [af.cells];refine aU 16 2 [.tmp 4] mixed Tryz.func235 ?_;simp only [go_sem,seval];refine aa.pure h ?_;simp only [go_sem,seval]
theorem DC (s:af) (n:Int) (hl:s.aj.small):Abs.Spec Tryz.prog 236 [] [.agg s.cells,.int .i64 n] [] (.bool (bf s.aj n)):=by
 have h:=dc s.aj n hl;obtain ⟨g,hg⟩:=aO (aV s.aj n);rw [<- hg] at h;simp only [aq.cells,ay.cells] at h;simp only [af.cells];refine aU 15 2 [.tmp 4] mixed Tryz.func236 ?_;simp only [go_sem,seval];refine aa.pure h ?_;simp only [go_sem,seval]
theorem Ic (s:af) (hl:s.aT.length < 2 ^ 30):Abs.Spec Tryz.prog 237 [] [.agg s.cells] [] (.bool (!decide (32 < (s.aT.length:Int))&&s.aT.all j5)):=by
 simp only [af.cells];refine aU 43 1 [.tmp 2] mixed Tryz.func237 ?_;simp only [go_sem,seval,aI];refine aB.walk (S:=Unit) s.aT.length [1] [32] (fun i _=>[(3,.int .i64 i)]) (fun i _=>[]) (fun i _=>∀ j (hj:j < s.aT.length),j < i->j5 s.aT[j]=true) () (by intros;omega) ?_ ?_ ?_
 ·simp only [go_sem,seval]<;>simp
 ·intro i _ hi hdi hw hI;have hm:=aD (c:=bp.cells) s.aT hi;have h1:=oF s.aT[i].who s.aT[i].inst;have h2:=fD s.aT[i].src;have h3:=fG s.aT[i].aX 1 1048576;have h4:=fG s.aT[i].aR 1 1073741824;have hli:(i:Int) < (s.aT.length:Int):=by omega
  have e0:=ku hi hI;have e1:j5 s.aT[i]=false->(!decide (32 < (s.aT.length:Int))&&s.aT.all j5)=false:=fun h=>by simp [qV hi h]
  simp only [j5] at e0 e1;simp only [bp.cells] at hm;simp only [go_sem,seval,hdi,aI,hm];(with_reducible and_intros)<;>first|exact .dq|omega|skip
  refine aa.pure h1 ?_;cases b1:ot s.aT[i].who s.aT[i].inst
  ·have:=e1 (by simp [b1]);simp only [go_sem,seval,this]
  simp only [go_sem,seval];refine aa.pure h2 ?_;cases b2:within s.aT[i].src 1 16
  ·have:=e1 (by simp [b2]);simp only [go_sem,seval,this]
  simp only [go_sem,seval];refine aa.pure h3 ?_;cases b3:within s.aT[i].aX 1 1048576
  ·have:=e1 (by simp [b3]);simp only [go_sem,seval,this]
  simp only [go_sem,seval];refine aa.pure h4 ?_;cases b4:within s.aT[i].aR 1 1073741824
  ·have:=e1 (by simp [b4]);simp only [go_sem,seval,this]
  simp only [go_sem,seval,hw];refine ah.step () hi (e0 (by simp [b1,b2,b3,b4])) ?_;simp only [go_sem,seval]
 ·intro _ hdx hI;have hA:=nj hI;have e:decide ((s.aT.length:Int)<=32) = !decide (32 < (s.aT.length:Int)):=by rw [Bool.eq_iff_iff];simp
  simp only [go_sem,seval,hdx,aI,hA,Bool.and_true,e]
theorem EN (s:af) (hl:s.aM.length < 2 ^ 30):Abs.Spec Tryz.prog 238 [] [.agg s.cells] [] (.bool (lV ff dD s.aM)):=by
 simp only [af.cells];refine aU 43 1 [.tmp 2] mixed Tryz.func238 ?_;simp only [go_sem,seval,aI];refine aB.count s.aM.length [1] [32] (fun i=>[(3,.int .i64 i)]) (fun i=>[]) (fun i=>∀ j < i,ke ff dD s.aM j=true) (by simp) ?_ ?_
 ·simp only [go_sem,seval]<;>simp
 intro i hi hI;simp only [go_sem,seval,aI];refine bH.aF (fun h=>?_) (fun h=>?_)
 ·have hi':i < s.aM.length:=by omega
  have hw:IntKind.wrap .i64 ((i:Int)+1)=((i+1:Nat):Int):=by rw [bz (by omega) (by omega)];omega
  have hm:=aD (c:=bu.cells) s.aM hi';have e0:=nr (i:=i) hI;have e1:ke ff dD s.aM i=false->lV ff dD s.aM=false:=qX hi';have h1:=fG s.aM[i].client 1 8;have h2:=fG s.aM[i].seq 1 1099511627776;simp only [bu.cells] at hm;rcases Nat.eq_zero_or_pos i with rfl | hpos
  ·have hk:=gz (ok:=ff) (lt:=dD) hi';simp only [ff,dD] at hk;simp only [go_sem,seval,hm,aI]
   repeat' with_reducible first|apply And.intro|exact .dq|refine aa.pure (by assumption) ?_|refine aa.pure (h1) ?_|refine aa.pure (h2) ?_|refine .aH (fun h=>?_) fun h=>?_|refine .aF (fun h=>?_) fun h=>?_|refine .aK (fun h=>?_) fun h=>?_|refine .split (fun h=>?_) fun h=>?_|refine .id ?_|refine ah.next (by omega) ?_ ?_|exact trivial|simp only [*,go_sem,seval]
   all_goals first
    | omega
    | rfl
    | (refine e0 ?_;clear e0 e1;rw [hk];clear hk;simp_all;done)
    | (refine e0 ?_;clear e0 e1;rw [hk];clear hk;simp_all;omega)
    | (rw [e1 ?_];clear e0 e1;rw [hk];clear hk;simp_all;done)
    | (rw [e1 ?_];clear e0 e1;rw [hk];clear hk;simp_all;omega)
    | (rw [e1 ?_]
       ·rfl
       ·clear e0 e1;rw [hk];clear hk;simp_all;done)
    | (rw [e1 ?_]
       ·rfl
       ·clear e0 e1;rw [hk];clear hk;simp_all;omega)
  ·obtain ⟨j,rfl⟩:∃ j,i=j+1:=⟨i-1,by omega⟩
   have hj:j < s.aM.length:=by omega
   have hw1:IntKind.wrap .i64 (((j+1:Nat):Int)-1)=(j:Int):=by rw [bz (by omega) (by omega)];omega
   have hk:=fT (ok:=ff) (lt:=dD) hi';simp only [ff,dD] at hk;have hmj:=aD (c:=bu.cells) s.aM hj;have hlt:decide (s.aM[j].client < s.aM[j+1].client) = !decide (s.aM[j+1].client<=s.aM[j].client):=by rw [Bool.eq_iff_iff];simp
   rw [hlt] at hk;clear hlt;simp only [bu.cells] at hmj;simp only [go_sem,seval,hm,aI]
   repeat' with_reducible first|apply And.intro|exact .dq|refine aa.pure (by assumption) ?_|refine aa.pure (h1) ?_|refine aa.pure (h2) ?_|refine .aH (fun h=>?_) fun h=>?_|refine .aF (fun h=>?_) fun h=>?_|refine .aK (fun h=>?_) fun h=>?_|refine .split (fun h=>?_) fun h=>?_|refine .id ?_|refine ah.next (by omega) ?_ ?_|exact trivial|simp only [*,go_sem,seval,hmj,aI]
   all_goals first
    | omega
    | rfl
    | (refine e0 ?_;clear e0 e1;rw [hk];clear hk;simp_all;done)
    | (refine e0 ?_;clear e0 e1;rw [hk];clear hk;simp_all;omega)
    | (rw [e1 ?_];clear e0 e1;rw [hk];clear hk;simp_all;done)
    | (rw [e1 ?_];clear e0 e1;rw [hk];clear hk;simp_all;omega)
    | (rw [e1 ?_]
       ·rfl
       ·clear e0 e1;rw [hk];clear hk;simp_all;done)
    | (rw [e1 ?_]
       ·rfl
       ·clear e0 e1;rw [hk];clear hk;simp_all;omega)
 have hCH:=lY (fun j (hj:j < s.aM.length)=>hI j (by omega));clear hI;simp only [go_sem,seval,hCH]
theorem QY {r:aq} (h:r.okB=true) (n:Int):0<=bq r n/\bq r n<=3:=by
 simp only [aq.okB,cg] at h;have hm:=qd h.1.1;unfold bq eV;generalize r.ms=ms at hm
 induction ms with
 | nil=>simp [fP,ak.zero]
 | cons x t ih =>
  simp only [fP];split
  ·have:=hm x (by simp);simp only [ak.ok,within,cg,decide_eq_true_eq] at this;omega
  ·exact ih fun y hy=>hm y (by simp [hy])
theorem St {r:aq} (h:r.okB=true) (n:Int):u5 r n=(!(bq r n==0)&&!(bq r n==3)):=by
 have:=QY h n;rw [Bool.eq_iff_iff];simp only [u5,Bool.or_eq_true,cg,Bool.not_eq_true',beq_iff_eq,beq_eq_false_iff_ne];omega
theorem gC (s:af) (hs:s.small) (hr:s.dz):Abs.Spec Tryz.prog 175 [] [.agg s.cells] [] (.bool (bA s)):=by
 have hro:=hs.aj.small;have a1:=fG s.now 0 1099511627776;have a2:=fG s.day 0 1099511627776;have a3:=fG s.phase 0 2;have c2:=dK s.aj hro;have c3:=gX s.book hs.book hr.qs;have c4:=ig s.bE hs.bE hr.bs;have c5:=mH s.ps (by have:=hs.ps;omega);have c6:=pJ s.calls hs.calls;have kS:=fun n=>l7 s n hro
 have kL:=fun n=>DC s n hro
 have kH:=fun n=>kJ s.aj n hro
 have c7:=Ic s hs.aT;have c8:=EN s hs.aM;obtain ⟨hb1,hb2⟩:=hs.book;have hpl:=hs.ps;have hcl:=hs.calls;have hop:=fun h n=>St (r:=s.aj) h n
 simp only [aq.cells,aG.cells,bn.cells] at c2 c3 c4 kH;simp only [af.cells] at kS kL c7 c8 |-;clear hs hr hro;refine aU 197 1 [.tmp 2] mixed Tryz.func175 ?_;simp only [go_sem,seval];refine aa.pure a1 ?_;cases q1:within s.now 0 1099511627776
 ·have e:bA s=false:=by simp [bA,oV,q1]
  simp only [go_sem,seval,e]
 simp only [go_sem,seval];refine aa.pure a2 ?_;cases q2:within s.day 0 1099511627776
 ·have e:bA s=false:=by simp [bA,oV,q2]
  simp only [go_sem,seval,e]
 simp only [go_sem,seval];refine aa.pure a3 ?_;cases q3:within s.phase 0 2
 ·have e:bA s=false:=by simp [bA,oV,q3]
  simp only [go_sem,seval,e]
 simp only [go_sem,seval];refine aa.pure c2 ?_;cases b2:s.aj.okB
 ·have e:bA s=false:=by simp [bA,b2]
  simp only [go_sem,seval,e]
 simp only [go_sem,seval];refine aa.pure c3 ?_;cases b3:s.book.okB
 ·have e:bA s=false:=by simp [bA,b3]
  simp only [go_sem,seval,e]
 simp only [go_sem,seval];refine aa.pure c4 ?_;cases b4:s.bE.okB
 ·have e:bA s=false:=by simp [bA,b4]
  simp only [go_sem,seval,e]
 simp only [go_sem,seval];refine aa.pure c5 ?_;cases b5:gj s.ps
 ·have e:bA s=false:=by simp [bA,b5]
  simp only [go_sem,seval,e]
 simp only [go_sem,seval];refine aa.pure c6 ?_;cases b6:lV bR bN s.calls
 ·have e:bA s=false:=by simp [bA,b6]
  simp only [go_sem,seval,e]
 have hop:=hop b2;have e:bA s=(lN s&&(!decide (32 < (s.aT.length:Int))&&(s.aT.all j5&&lV ff dD s.aM))):=by simp only [bA,oV,q1,q2,q3,b2,b3,b4,b5,b6,Bool.true_and]
 rw [e];clear e a1 a2 a3 c2 c3 c4 c5 c6 q1 q2 q3 b2 b3 b4 b5 b6;obtain ⟨R,hR⟩:=aO ((!decide (32 < (s.aT.length:Int))&&(s.aT.all j5&&lV ff dD s.aM)));rw [<- hR];simp only [go_sem,seval,aI];refine aB.walk (S:=Unit) s.book.qs.length [1] [32] (fun i _=>[(3,.int .i64 i)]) (fun i _=>[]) (fun i _=>∀ j (hj:j < s.book.qs.length),j < i->Dq s.aj s.book.qs[j]=true) () (by intros;omega) ?_ ?_ ?_
 ·simp only [go_sem,seval]<;>simp
 ·intro i _ hi hdi hw hI;have hm:=aD (c:=aA.cells) s.book.qs hi;have hli:(i:Int) < (s.book.qs.length:Int):=by omega
  have e0:=ku hi hI;have e1:Dq s.aj s.book.qs[i]=false->(lN s&&R)=false:=fun h=>by simp [lN,qV hi h]
  simp only [Dq,hop] at e1;simp only [aA.cells] at hm;simp only [go_sem,seval,hdi,aI,hm];(with_reducible and_intros)<;>first|exact .dq|omega|skip
  refine aa.pure (kS s.book.qs[i].who) ?_;cases b1:bq s.aj s.book.qs[i].who==0
  case true =>
   have:=e1 (by simp [b1]);simp only [go_sem,seval,b1,this];(with_reducible and_intros)<;>first|exact .dq|omega|skip
  cases b2:bq s.aj s.book.qs[i].who==3
  case true =>
   have:=e1 (by simp [b2]);simp only [go_sem,seval,b1,b2,this];(with_reducible and_intros)<;>first|exact .dq|omega|skip
  simp only [go_sem,seval,b1,b2,hm,aI];(with_reducible and_intros)<;>first|exact .dq|omega|skip
  refine aa.pure (kL s.book.qs[i].inst) ?_;cases b3:bf s.aj s.book.qs[i].inst
  ·have:=e1 (by simp [b3]);simp only [go_sem,seval,this]
  simp only [go_sem,seval,hw];refine ah.step () hi (e0 (by simp only [Dq,hop,b1,b2,b3];rfl)) ?_;simp only [go_sem,seval]
 intro _ hdx hI;have hA:=nj hI;have eA:(lN s&&R)=((s.book.ts.all (uy s.aj)&&(s.ps.all (sG s.aj)&&s.calls.all (oT s.aj)))&&R):=by simp [lN,hA]
 rw [eA];clear eA hA hI;simp only [go_sem,seval,hdx,aI];clear hdx;refine aB.walk (S:=Unit) s.book.ts.length [1] [32] (fun i _=>[(5,.int .i64 i)]) (fun i _=>[]) (fun i _=>∀ j (hj:j < s.book.ts.length),j < i->uy s.aj s.book.ts[j]=true) () (by intros;omega) ?_ ?_ ?_
 ·simp only [go_sem,seval]<;>simp
 ·intro i _ hi hdi hw hI;have hm:=aD (c:=aL.cells) s.book.ts hi;have hli:(i:Int) < (s.book.ts.length:Int):=by omega
  have e0:=ku hi hI;have e1:uy s.aj s.book.ts[i]=false->((s.book.ts.all (uy s.aj)&&(s.ps.all (sG s.aj)&&s.calls.all (oT s.aj)))&&R)=false:=fun h=>by simp [qV hi h]
  simp only [uy] at e1;simp only [aL.cells] at hm;simp only [go_sem,seval,hdi,aI,hm];(with_reducible and_intros)<;>first|exact .dq|omega|skip
  refine aa.pure (kS s.book.ts[i].fZ) ?_;cases b1:bq s.aj s.book.ts[i].fZ==0
  case true =>
   have:=e1 (by simp [b1]);simp only [go_sem,seval,b1];exact this.symm
  simp only [go_sem,seval,b1,hm,aI];(with_reducible and_intros)<;>first|exact .dq|omega|skip
  refine aa.pure (kS s.book.ts[i].dY) ?_;cases b2:bq s.aj s.book.ts[i].dY==0
  case true =>
   simp only [go_sem,seval,b2];exact (e1 (by simp [b2])).symm
  simp only [go_sem,seval,b2,hm,aI];(with_reducible and_intros)<;>first|exact .dq|omega|skip
  refine aa.pure (kL s.book.ts[i].inst) ?_;cases b3:bf s.aj s.book.ts[i].inst
  ·simp only [go_sem,seval];exact (e1 (by simp [b3])).symm
  simp only [go_sem,seval,hw];refine ah.step () hi (e0 (by simp only [uy,b1,b2,b3];rfl)) ?_;simp only [go_sem,seval]
 intro _ hdx hI;have hA:=nj hI;rw [hA,Bool.true_and];clear hA hI;have hpln:(pl s.ps).length=s.ps.length:=nF s.ps;simp only [go_sem,seval,hdx];clear hdx;refine aB.walk (S:=Unit) s.ps.length [1] [32] (fun i _=>[(6,.int .i64 i)]) (fun i _=>[]) (fun i _=>∀ j (hj:j < s.ps.length),j < i->sG s.aj s.ps[j]=true) () (by intros;omega) ?_ ?_ ?_
 ·simp only [go_sem,seval]<;>simp
 ·intro i _ hi hdi hw hI;have hm:=jX s.ps hi;have hli:(i:Int) < (s.ps.length:Int):=by omega
  have e0:=ku hi hI;have e1:sG s.aj s.ps[i]=false->((s.ps.all (sG s.aj)&&s.calls.all (oT s.aj))&&R)=false:=fun h=>by simp [qV hi h]
  have e2:sG s.aj s.ps[i]=((!(bq s.aj s.ps[i].who==0)&&!(bq s.aj s.ps[i].who==3))&&jr s.aj s.ps[i].bF):=by simp only [sG,hop]
  have hA:=kH s.ps[i].bF;obtain ⟨g,hg⟩:=aO (fP av.a s.ps[i].bF ⟨0,0,0,0⟩ s.aj.xs);have hAe:decide (0<=iG av.a s.ps[i].bF s.aj.xs)=jr s.aj s.ps[i].bF:=rfl;rw [<- hg,hAe] at hA;simp only [av.cells] at hA;rw [e2] at e0 e1;clear e2;simp only [go_sem,seval,hdi,hm];(with_reducible and_intros)<;>first|exact .dq|omega|skip
  refine aa.pure (kS s.ps[i].who) ?_;simp only [go_sem,seval,hm];(with_reducible and_intros)<;>first|exact .dq|omega|skip
  refine aa.pure hA ?_;cases b1:bq s.aj s.ps[i].who==0
  case true =>
   simp only [go_sem,seval,b1];(with_reducible and_intros)<;>first|exact .dq|omega|skip
   exact (e1 (by simp [b1])).symm
  cases b2:bq s.aj s.ps[i].who==3
  case true =>
   simp only [go_sem,seval,b1,b2];(with_reducible and_intros)<;>first|exact .dq|omega|skip
   exact (e1 (by simp [b2])).symm
  cases b3:jr s.aj s.ps[i].bF
  ·simp only [go_sem,seval,b1,b2,b3];(with_reducible and_intros)<;>first|exact .dq|omega|skip
   exact (e1 (by simp [b3])).symm
  simp only [go_sem,seval,b1,b2,b3,hw];(with_reducible and_intros)<;>first|exact .dq|omega|skip
  refine ah.step () hi (e0 (by simp [b1,b2,b3])) ?_;simp only [go_sem,seval]
 intro _ hdx hI;have hA:=nj hI;rw [hA,Bool.true_and];clear hA hI;simp only [go_sem,seval,hdx,aI];clear hdx;refine aB.walk (S:=Unit) s.calls.length [1] [32] (fun i _=>[(10,.int .i64 i)]) (fun i _=>[]) (fun i _=>∀ j (hj:j < s.calls.length),j < i->oT s.aj s.calls[j]=true) () (by intros;omega) ?_ ?_ ?_
 ·simp only [go_sem,seval]<;>simp
 ·intro i _ hi hdi hw hI;have hm:=aD (c:=au.cells) s.calls hi;have hli:(i:Int) < (s.calls.length:Int):=by omega
  have e0:=ku hi hI;have e1:oT s.aj s.calls[i]=false->(s.calls.all (oT s.aj)&&R)=false:=fun h=>by simp [qV hi h]
  simp only [au.cells] at hm;simp only [go_sem,seval,hdi,aI,hm];(with_reducible and_intros)<;>first|exact .dq|omega|skip
  refine aa.pure (kS s.calls[i].who) ?_;cases b1:bq s.aj s.calls[i].who==1
  ·simp only [go_sem,seval,bne,b1];exact (e1 b1).symm
  simp only [go_sem,seval,bne,b1,hw];refine ah.step () hi (e0 b1) ?_;simp only [go_sem,seval]
 intro _ hdx hI;have hA:=nj hI;rw [hA,Bool.true_and,hR,<- Bool.and_assoc];clear hA hI hR;simp only [go_sem,seval,hdx,aI];refine aa.pure c7 ?_;cases b7:(!decide (32 < (s.aT.length:Int))&&s.aT.all j5)
 ·simp only [go_sem,seval,Bool.false_and]
 simp only [go_sem,seval];refine aa.pure c8 ?_;simp only [go_sem,seval,Bool.true_and]
theorem Spec.MB {P:Program} {f:FuncId} {hs ds ds' hs':List D} {d:D} (h:Abs.Spec P f hs ds hs' d) (hl:lG (fun _=>none) (fun _=>false) ds' ds):Abs.Spec P f hs ds' hs' d:=by
 obtain ⟨h1,h2⟩:=wF hl;refine ⟨h.1,?_⟩;intro w l0 G0 own0 S0 vs hT hl0 hG hsz hr hobj;refine h.2 w l0 G0 own0 S0 vs hT hl0 hG (by rw [hsz,h1]) ?_ hobj;intro i v y hv hy;have hi:i < ds'.length:=by rw [h1];exact (List.getElem?_eq_some_iff.1 hy).1
 have hx:ds'[i]?=some ds'[i]:=List.getElem?_eq_getElem hi;exact jh.rep (C:=cx w l0 S0) (C':=cx w l0 S0) (fun _ _ h=>h) (by intro s r h;cases h) (by intro s _ h;cases h) (hr i v _ hv hx) (h2 i _ _ hx hy)
structure af.mid (s:af):Prop where
 small:s.small
 bs:s.bE.bs.length < 2 ^ 20
 qs:s.book.qs.length < 2 ^ 20
 ns:s.aj.ns.length < 2 ^ 20
def abE (l:List ByteArray):List (List D):=l.map fun s=>[.str s]
@[go_sem] theorem abS (l:List ByteArray):(abE l).length=l.length:=by simp [abE]
def aff (s1 s2 s3 s4 s5 s6 s7 s8 s9 s10 s11 s12 s13:ByteArray) (b1 b2 b3 b4 b5 b6 b7 b8 b9 b10 b11 b12 b13:Bool):List (ByteArray × Bool):=[(s1,b1),(s2,b2),(s3,b3),(s4,b4),(s5,b5),(s6,b6),(s7,b7),(s8,b8),(s9,b9),(s10,b10),(s11,b11),(s12,b12),(s13,b13)]
def parts (a b:af):List (ByteArray × Bool):=aff ⟨#[67,108,111,99,107]⟩ ⟨#[77,101,109,98,101,114,115]⟩ ⟨#[73,110,115,116,115]⟩ ⟨#[65,115,115,101,116,115]⟩ ⟨#[78,101,120,116]⟩ ⟨#[84,114,97,100,101,115]⟩ ⟨#[80,111,115,115]⟩ ⟨#[76,97,115,116]⟩ ⟨#[66,97,108,97,110,99,101,115]⟩ ⟨#[80,108,101,100,103,101,115]⟩ ⟨#[67,97,108,108,115]⟩ ⟨#[66,105,100,115]⟩ ⟨#[83,101,97,116,115]⟩ (a.now==b.now&&(a.day==b.day&&a.phase==b.phase)) (decide (a.aj.ms=b.aj.ms)) (decide (a.aj.ns=b.aj.ns)) (decide (a.aj.xs=b.aj.xs)) (a.book.next==b.book.next) (decide (a.book.ts=b.book.ts)) (decide (a.book.qs=b.book.qs)) (a.bE.last==b.bE.last) (decide (a.bE.bs=b.bE.bs)) (decide (a.ps=b.ps)) (decide (a.calls=b.calls)) (decide (a.aT=b.aT)) (decide (a.aM=b.aM))
@[reducible] def aiv (x:Int):List D:=[.int .i64 x]
theorem aav (n0 n1 n2 n3 n4:Int) (r0 r1 r2 r3 r4 r5 r6 r7 r8 r9:List (List D)):(fE [0,1,2,3,4,5,6,7,8,9] (td [(0,.agg [.int .i64 n0,.int .i64 n1,.int .i64 n2,.ref 0,.ref 1,.ref 2,.int .i64 n3,.ref 3,.ref 4,.int .i64 n4,.ref 5,.ref 6,.ref 7,.ref 8,.ref 9])] (qO 0 [.own 3 r0,.own 12 r1,.own 4 r2,.own 7 r3,.own 4 r4,.own 4 r5,.own 3 r6,.own 4 r7,.own 5 r8,.own 7 r9]))).t 0=.agg [.int .i64 n0,.int .i64 n1,.int .i64 n2,.sl 3 r0,.sl 12 r1,.sl 4 r2,.int .i64 n3,.sl 7 r3,.sl 4 r4,.int .i64 n4,.sl 4 r5,.sl 3 r6,.sl 4 r7,.sl 5 r8,.sl 7 r9]:=by
 kernel_rfl
theorem WI (d:D) (r0 r1 r2 r3 r4 r5 r6 r7 r8 r9:List (List D)) (r:Nat):(fE [0,1,2,3,4,5,6,7,8,9] (td [(0,d)] (qO 0 [.own 3 r0,.own 12 r1,.own 4 r2,.own 7 r3,.own 4 r4,.own 4 r5,.own 3 r6,.own 4 r7,.own 5 r8,.own 7 r9]))).o r=[].getD r .undef:=by
 rcases r with _ | _ | _ | _ | _ | _ | _ | _ | _ | _ | r<;>kernel_rfl
theorem aP (s:af) (hs:s.small):Abs.Spec Tryz.prog 27 [] [.agg s.cells] [] (.agg s.cells):=by
 have h:=nS s hs;simp only [JV,Bm] at h;simp only [af.cells];simp only [af.cells] at h;exact Spec.frozen h [0,1,2,3,4,5,6,7,8,9] (aav ..) (fun r=>WI ..)
end Go.Proofs.YtacacccbcndjoaaGreat
