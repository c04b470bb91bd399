/- Sums of quantities, of money, and what follows. No theorem of a claim. -/
import Derived.Test.YtnkobepdbkmedaaGreatDoorKD
set_option linter.unusedSimpArgs false
set_option linter.unusedVariables false
set_option maxHeartbeats 4000000
set_option maxRecDepth 16000
namespace Go.Proofs.YtnkobepdbkmedaaGreatDoor
open Go.Abs
def Pu (S:Int):Int:=if bL S then S else 0
def J5 (S:Int):Int:=if bL S then 0 else 1
theorem Wi {S:Int} (h:qI S=false):bL S=false:=by
 cases hb:bL S
 ·rfl
 ·have:=cg.1 hb;have h2:qI S=true:=by simp only [qI,cr,decide_eq_true_eq];omega
  rw [h] at h2;cases h2
theorem HK (l:List Int) (hl:l.length < 2 ^ 58) (hr:∀ n∈l,qI n=true):Abs.Spec Tryz.prog 59 [] [.sl 2 (kD l)] [] (.bI [.int .i64 (Pu (az l)),.int .i64 (J5 (az l))]):=by
 have hs:=sn l (by omega) hr;have hI:=sM (az l);refine bu 18 1 [.tmp 2,.tmp 3] mixed Tryz.func59 ?_;cases h2:qI (az l)
 ·have hR:=Wi h2;have hz:wd 0=[.int .i64 0,.int .u64 0]:=rfl;rw [h2] at hs;simp only [fZ,if_false,hz] at hs;have e1:Pu (az l)=0:=by simp [Pu,hR]
  have e2:J5 (az l)=1:=by simp [J5,hR]
  rw [e1,e2];simp only [go_sem,seval];refine aa.gen [] [] true (by simp) ?_;simp only [go_sem,seval];refine aU.intro hs ?_;simp only [go_sem,seval]
 ·rw [h2] at hs;simp only [if_true] at hs;simp only [wd] at hs hI;simp only [go_sem,seval];refine aa.gen [] [] true (by simp) ?_;simp only [go_sem,seval];refine aU.intro hs ?_;simp only [go_sem,seval];refine aa.pure hI ?_;simp only [go_sem,seval,Pu,J5]
theorem Wy {n:Int} (h:dj n):qI n=true:=rO (B:=9223372036854775808) ⟨h.1,by have:=h.2;omega⟩ (by omega)
theorem O9 (ks:List Int) (k:Int) (hl:ks.length < 2 ^ 62):Abs.Spec Tryz.prog 63 [] [.sl 1 (ints ks),.int .i64 k] [] (.int .i64 (iJ id k ks)):=by
 refine bu 19 2 [.tmp 4] mixed Tryz.func63 ?_;simp only [go_sem,seval,av];refine aC.walk (S:=Unit) ks.length [0,1,7] [] (fun i _=>[(8,.int .i64 i)]) (fun i _=>[]) (fun i _=>∀ j (hj:j < ks.length),j < i->id ks[j]≠k) () (by intros;omega) ?_ ?_ ?_
 ·simp only [go_sem,seval]<;>simp
 ·intro i _ hi hdi hw hI;have hli:(i:Int) < (ks.length:Int):=by omega
  simp only [go_sem,seval,hdi,av,ints_at ks hi];(with_reducible and_intros)<;>first|exact .dq|omega|skip
  cases hb:k==ks[i]
  ·have hb2:id ks[i]≠k:=fun h=>by simp only [id] at h;rw [h] at hb;simp at hb
   simp only [go_sem,seval,hw];refine ah.step () hi ?_ ?_
   ·intro j hj hji;rcases Nat.lt_or_ge j i with h | h
    ·exact hI j hj h
    ·obtain rfl:j=i:=by omega
     exact hb2
   ·simp only [go_sem,seval]
  ·have hb2:id ks[i]=k:=by simp only [id];have:=Pd hb;omega
   obtain ⟨g1,g2⟩:=jg (z:=(0:Int)) hi hI hb2;rw [g2];simp only [go_sem,seval]
 ·intro _ hdx hI;obtain ⟨g1,g2⟩:=gK (z:=(0:Int)) (fun j hj=>hI j hj hj);rw [g2];simp only [go_sem,seval,hdx]
theorem vw {A:Type} {no:A->Int} {n:Int}:∀ {xs:List A},decide (0<=iJ no n xs)=xs.any (fun x=>no x==n)
 | []=>by simp [iJ]
 | x :: r=>by
  have ih:=vw (no:=no) (n:=n) (xs:=r);rw [Bool.eq_iff_iff,decide_eq_true_iff] at ih |-;rw [List.any_cons,Bool.or_eq_true,<- ih,beq_iff_eq];simp only [iJ];split
  ·simp [*]
  ·rename_i h1;split
   ·exact ⟨fun h=>by omega,fun h=>by rcases h with h | h;exact (h1 h).elim;omega⟩
   ·exact ⟨fun _=>.inr (by omega),fun h=>by omega⟩
theorem xQ (ks:List Int) (k:Int) (hl:ks.length < 2 ^ 62):Abs.Spec Tryz.prog 32 [] [.sl 1 (ints ks),.int .i64 k] [] (.bool (lR ks k)):=by
 have h:=O9 ks k hl;have e:decide (0<=iJ id k ks)=lR ks k:=by rw [vw];rfl
 refine bu 9 2 [.tmp 4] mixed Tryz.func32 ?_;simp only [go_sem,seval];refine aa.pure h ?_;simp only [go_sem,seval,e]
def KA (ks:List Int) (k:Int):Bool:=decide (ks.length=0)||lR ks k
def ij (c:Int) (ks:List Int) (bs:List bC):List Int:=(bs.filter fun b=>b.cur==c&&KA ks b.kind).map bC.sum
theorem I5 (c:Int) (ks:List Int) (bs:List bC) {i:Nat} (h:i < bs.length):ij c ks (bs.take (i+1))=if bs[i].cur==c&&KA ks bs[i].kind then ij c ks (bs.take i)++[bs[i].sum] else ij c ks (bs.take i):=by
 simp only [ij];rw [List.take_succ_eq_append_getElem h,List.filter_append,List.map_append];cases hb:(bs[i].cur==c&&KA ks bs[i].kind)<;>simp [List.filter,hb]
theorem LM (c:Int) (ks:List Int) (bs:List bC):(ij c ks bs).length<=bs.length:=by
 simp only [ij,aJ];exact List.length_filter_le _ _
theorem TF {c:Int} {ks:List Int} {bs:List bC} (h:∀ b∈bs,b.cU):∀ n∈ij c ks bs,dj n:=by
 intro n hn;simp only [ij,List.mem_map,List.mem_filter] at hn;obtain ⟨b,⟨hb,_⟩,rfl⟩:=hn;exact (h b hb).2.2.2
theorem DW (s:af) (c:Int) (ks:List Int) (hr:s.cU) (hl:s.aW.bs.length < 2 ^ 30) (hk:ks.length < 2 ^ 30):Abs.Spec Tryz.prog 28 [] [.agg s.cells,.int .i64 c,.sl 1 (ints ks)] [] (.bI [.int .i64 (Pu (az (ij c ks s.aW.bs))),.int .i64 (J5 (az (ij c ks s.aW.bs)))]):=by
 have hq:=LM c ks s.aW.bs;have hS:=HK (ij c ks s.aW.bs) (by omega) (fun q hq=>Wy (TF hr.bs q hq));simp only [af.cells];refine bu 47 3 [.tmp 6,.tmp 7] mixed Tryz.func28 ?_;simp only [go_sem,seval,aJ];refine aC.walk (S:=Unit) s.aW.bs.length [1,2,13,14] [64,240] (fun i _=>[(15,.int .i64 i),(8,.ref 672)]) (fun i _=>[(672,.own 2 (kD (ij c ks (s.aW.bs.take i))))]) (fun _ _=>True) () trivial ?_ ?_ ?_
 ·simp only [go_sem,seval]<;>simp [ij,kD]
 ·intro i _ hi hdi hwi _;have hm:=aG (c:=bC.cells) s.aW.bs hi;have hs:=I5 c ks s.aW.bs hi;have hlen:=LM c ks (s.aW.bs.take i);have hlt:(s.aW.bs.take i).length=i:=by simp;omega
  obtain ⟨z,hz⟩:=aH (s.aW.bs[i]);have hO:=tJ z.sum (by rw [hz];exact (hr.bs _ (List.getElem_mem hi)).2.2.2);have hC:=xQ ks z.kind (by omega);have hwl:(kD (ij c ks (s.aW.bs.take i))).length<=i:=by simp [kD];omega
  rw [<- hz] at hm hs;simp only [bC.cells] at hm;simp only [wd] at hO;simp only [go_sem,seval,hdi,hm];(with_reducible and_intros)<;>first|exact .dq|omega|skip
  cases b1:z.cur==c
  ·simp only [b1,Bool.false_and,fZ,if_false] at hs;simp only [go_sem,seval,hwi];refine ah.step () hi trivial ?_;simp only [go_sem,seval,hs]
  cases b2:decide (ks.length=0)
  case true =>
   have b2':((ks.length:Int)==0)=true:=by rw [beq_iff_eq];have:=of_decide_eq_true b2;omega
   simp only [b1,KA,b2,Bool.true_or,Bool.and_self,if_true] at hs;simp only [go_sem,seval,av,b2'];refine aa.pure hO ?_;simp only [go_sem,seval,hwi];(with_reducible and_intros)<;>first|exact .dq|omega|skip
   refine ah.step () hi trivial ?_;simp only [go_sem,seval,hs]<;>simp [kD,wd]
  have b2':((ks.length:Int)==0)=false:=by rw [beq_eq_false_iff_ne];have:=of_decide_eq_false b2;omega
  simp only [go_sem,seval,av,b2'];refine aa.pure hC ?_;cases b3:lR ks z.kind
  ·simp only [b1,KA,b2,b3,Bool.or_self,Bool.and_false,fZ,if_false] at hs;simp only [go_sem,seval,hwi];refine ah.step () hi trivial ?_;simp only [go_sem,seval,hs]
  ·simp only [b1,KA,b2,b3,Bool.false_or,Bool.and_self,if_true] at hs;simp only [go_sem,seval];refine aa.pure hO ?_;simp only [go_sem,seval,hwi];(with_reducible and_intros)<;>first|exact .dq|omega|skip
   refine ah.step () hi trivial ?_;simp only [go_sem,seval,hs]<;>simp [kD,wd]
 ·intro _ hdx _;simp only [go_sem,seval,hdx,List.take_length];refine aa.gen [] [] true (by simp) ?_;simp only [go_sem,seval];refine aU.intro hS ?_;simp only [go_sem,seval]
theorem dX:∀ l m:List Int,az (l++m)=az l+az m
 | [],m=>by simp [az]
 | x :: l,m=>by simp only [List.cons_append,az,dX l m];omega
def ak.zero:ak:=⟨0,0,0⟩
theorem DD (xs:List ak) (n:Int) (hl:xs.length < 2 ^ 62):Abs.Spec Tryz.prog 55 [] [.sl 3 (xs.map ak.cells),.fn 56 [],.int .i64 n] [] (.bI [.agg (fX ak.no n ak.zero xs).cells,.int .i64 (iJ ak.no n xs)]):=by
 refine bu 27 3 [.cell 6 49,.tmp 7] mixed Tryz.func55 ?_;simp only [go_sem,seval,aJ];refine aC.walk (S:=Unit) xs.length [1,2,6,11,12] [112,208] (fun i _=>[(13,.int .i64 i)]) (fun i _=>[]) (fun i _=>∀ j (hj:j < xs.length),j < i->xs[j].no≠n) () (by intros;omega) ?_ ?_ ?_
 ·simp only [go_sem,seval]<;>simp
 ·intro i _ hi hdi hw hI;have hm:=aG (c:=ak.cells) xs hi;have hno:=qk xs[i];simp only [ak.cells] at hm hno |-;simp only [go_sem,seval,hdi,hm];(with_reducible and_intros)<;>first|exact .dq|omega|skip
  refine aa.pure hno ?_;cases hb:xs[i].no==n
  ·have hb2:xs[i].no≠n:=by simpa using hb
   simp only [go_sem,seval,hb,hw];refine ah.step () hi ?_ ?_
   ·intro j hj hji;rcases Nat.lt_or_ge j i with h | h
    ·exact hI j hj h
    ·obtain rfl:j=i:=by omega
     exact hb2
   ·simp only [go_sem,seval]
  ·have hb2:xs[i].no=n:=by simpa using hb
   obtain ⟨g1,g2⟩:=jg (z:=ak.zero) hi hI hb2;rw [g1,g2];simp only [go_sem,seval,hb]
 ·intro _ hdx hI;obtain ⟨g1,g2⟩:=gK (z:=ak.zero) (fun j hj=>hI j hj hj);rw [g1,g2];simp only [go_sem,seval,hdx,ak.cells,ak.zero]
def ew (r:aq) (n:Int):ak:=fX ak.no n ak.zero r.ms
def dQ (r:aq) (n:Int):Bool:=decide (0<=iJ ak.no n r.ms)
def bJ (r:aq) (n:Int):Int:=(ew r n).state
theorem td (r:aq) (n:Int) (hl:r.small):Abs.Spec Tryz.prog 23 [] [.agg r.cells,.int .i64 n] [] (.bI [.agg (ew r n).cells,.bool (dQ r n)]):=by
 have h:=DD r.ms n (by have:=hl.1;omega);obtain ⟨g,hg⟩:=aH (fX ak.no n ak.zero r.ms);simp only [ew,dQ];rw [<- hg] at h |-;simp only [ak.cells] at h |-;simp only [aq.cells];refine bu 18 2 [.cell 4 49,.tmp 5] mixed Tryz.func23 ?_;simp only [go_sem,seval];refine aa.pure h ?_;simp only [go_sem,seval]
theorem vr (s:af) (n:Int) (hl:s.aj.small):Abs.Spec Tryz.prog 156 [] [.int .i64 n,.bN s.cells] [] (.int .i64 (bJ s.aj n)):=by
 have h:=td s.aj n hl;simp only [bJ];obtain ⟨g,hg⟩:=aH (ew s.aj n);rw [<- hg] at h |-;simp only [aq.cells,ak.cells] at h;simp only [af.cells];refine bu 15 2 [.tmp 3] mixed Tryz.func156 ?_;simp only [go_sem,seval];(with_reducible and_intros)<;>first|exact .dq|omega|skip
 refine aa.pure h ?_;simp only [go_sem,seval]
theorem Mh (s:af) (n:Int) (hl:s.aj.small):Abs.Spec Tryz.prog 157 [] [.int .i64 n,.bN s.cells] [] (.bool (br s.aj n)):=by
 have h:=xJ s.aj n hl;obtain ⟨g,hg⟩:=aH (bf s.aj n);rw [<- hg] at h;simp only [aq.cells,ay.cells] at h;simp only [af.cells];refine bu 14 2 [.tmp 3] mixed Tryz.func157 ?_;simp only [go_sem,seval];(with_reducible and_intros)<;>first|exact .dq|omega|skip
 refine aa.pure h ?_;simp only [go_sem,seval]
def xk (r:aq) (n:Int):Bool:=bJ r n==1||bJ r n==2
theorem NB (s:af) (n:Int) (hl:s.aj.small):Abs.Spec Tryz.prog 159 [] [.int .i64 n,.bN [.fn 156 [.bN s.cells]]] [] (.bool (xk s.aj n)):=by
 have h:=vr s n hl;simp only [af.cells] at h |-;refine bu 14 2 [.tmp 3] mixed Tryz.func159 ?_;simp only [go_sem,seval];(with_reducible and_intros)<;>first|exact .dq|omega|skip
 refine aa.pure h ?_;cases b1:bJ s.aj n==1
 ·simp only [go_sem,seval,b1];(with_reducible and_intros)<;>first|exact .dq|omega|skip
  refine aa.pure h ?_;simp only [go_sem,seval,xk,b1,Bool.false_or]
 ·simp only [go_sem,seval,xk,b1,Bool.true_or]
theorem NI (s:af) (c:aA) (hl:s.aj.small):Abs.Spec Tryz.prog 161 [] [.agg c.cells,.bN [.fn 156 [.bN s.cells]]] [] (.bool (!(bJ s.aj c.who==1))):=by
 have h:=vr s c.who hl;simp only [af.cells] at h |-;simp only [aA.cells];refine bu 10 2 [.tmp 3] mixed Tryz.func161 ?_;simp only [go_sem,seval];(with_reducible and_intros)<;>first|exact .dq|omega|skip
 refine aa.pure h ?_;simp only [go_sem,seval,bne]
theorem FP (s:af) (cs:List aA) (hl:s.aj.small) (hc:cs.length < 2 ^ 60):Abs.Spec Tryz.prog 221 [] [.sl 4 (cs.map aA.cells),.fn 161 [.bN [.fn 156 [.bN s.cells]]]] [] (.int .i64 (iJ (fun c:aA=>if bJ s.aj c.who==1 then 0 else 1) 1 cs)):=by
 have h:=fun c=>NI s c hl
 simp only [af.cells,aA.cells] at h |-;refine bu 19 2 [.tmp 4] mixed Tryz.func221 ?_;simp only [go_sem,seval,aJ];refine aC.walk (S:=Unit) cs.length [0,1,7] [] (fun i _=>[(8,.int .i64 i)]) (fun i _=>[]) (fun i _=>∀ j (hj:j < cs.length),j < i->(if bJ s.aj cs[j].who==1 then (0:Int) else 1)≠1) () (by intros;omega) ?_ ?_ ?_
 ·simp only [go_sem,seval]<;>simp
 ·intro i _ hi hdi hw hI;have hm:=aG (c:=aA.cells) cs hi;have hli:(i:Int) < (cs.length:Int):=by omega
  have hc:=h cs[i];simp only [aA.cells] at hm;simp only [go_sem,seval,hdi,aJ,hm];(with_reducible and_intros)<;>first|exact .dq|omega|skip
  refine aa.pure hc ?_;cases hb:bJ s.aj cs[i].who==1
  ·obtain ⟨g1,g2⟩:=jg (no:=fun c:aA=>if bJ s.aj c.who==1 then (0:Int) else 1) (n:=1) (z:=(⟨0,0,0,0⟩:aA)) hi hI (by simp [hb]);rw [g2];simp only [go_sem,seval,hb]
  ·simp only [go_sem,seval,hb,hw];refine ah.step () hi ?_ ?_
   ·intro j hj hji;rcases Nat.lt_or_ge j i with h | h
    ·exact hI j hj h
    ·obtain rfl:j=i:=by omega
     simp [hb]
   ·simp only [go_sem,seval]
 ·intro _ hdx hI;obtain ⟨g1,g2⟩:=gK (no:=fun c:aA=>if bJ s.aj c.who==1 then (0:Int) else 1) (n:=1) (z:=(⟨0,0,0,0⟩:aA)) (fun j hj=>hI j hj hj);rw [g2];simp only [go_sem,seval,hdx]
def pY (r:aq) (c:aA):Bool:=bJ r c.who==1
theorem AL (s:af) (cs:List aA) (hl:s.aj.small) (hc:cs.length < 2 ^ 60):Abs.Spec Tryz.prog 160 [] [.sl 4 (cs.map aA.cells),.fn 161 [.bN [.fn 156 [.bN s.cells]]]] [] (.bool (!cs.all (pY s.aj))):=by
 have h:=FP s cs hl hc
 have e:decide (0<=iJ (fun c:aA=>if bJ s.aj c.who==1 then (0:Int) else 1) 1 cs) = !cs.all (pY s.aj):=by
  rw [vw,List.not_all_eq_any_not];congr 1
  funext c
  cases hb:bJ s.aj c.who==1<;>simp [pY,hb]
 simp only [af.cells] at h |-;refine bu 9 2 [.tmp 4] mixed Tryz.func160 ?_;simp only [go_sem,seval];refine aa.pure h ?_;simp only [go_sem,seval,e]
def FM (r:aq) (p:aB):Bool:=xk r p.who&&br r p.inst
def wF (r:aq) (t:aL):Bool:=!(bJ r t.gp==0)&&(!(bJ r t.eC==0)&&br r t.inst)
def jN (r:aq) (n:Int):Bool:=decide (0<=iJ au.a n r.xs)
def vi (r:aq) (p:dS):Bool:=xk r p.who&&jN r p.bG
def l7 (s:af):Bool:=s.book.qs.all (FM s.aj)&&(s.book.ts.all (wF s.aj)&&(s.ps.all (vi s.aj)&&s.calls.all (pY s.aj)))
theorem sH {A:Type} {f:A->Bool} {xs:List A} {i:Nat} (h:i < xs.length) (hn:f xs[i]=false):xs.all f=false:=by
 cases hc:xs.all f
 ·rfl
 ·rw [List.all_eq_true.1 hc _ (List.getElem_mem h)] at hn;cases hn
theorem nS {A:Type} {f:A->Bool} {xs:List A} (h:∀ j (hj:j < xs.length),j < xs.length->f xs[j]=true):xs.all f=true:=List.all_eq_true.2 fun x hx=>by
 obtain ⟨j,hj,rfl⟩:=List.mem_iff_getElem.1 hx;exact h j hj hj
theorem lA {A:Type} {f:A->Bool} {xs:List A} {i:Nat} (hi:i < xs.length) (hI:∀ j (hj:j < xs.length),j < i->f xs[j]=true) (h0:f xs[i]=true):∀ j (hj:j < xs.length),j < i+1->f xs[j]=true:=fun j hj hji=>by
 rcases Nat.lt_or_ge j i with h | h
 ·exact hI j hj h
 ·obtain rfl:j=i:=by omega
  exact h0
theorem Ou (s:af) (hs:s.fit) (hc:s.calls.length < 2 ^ 30):Abs.Spec Tryz.prog 72 [] [.agg s.cells] [] (.bool (l7 s)):=by
 obtain ⟨hl,hb,_,hp⟩:=hs;obtain ⟨hb1,hb2⟩:=hb;have k2:=fun n=>Mh s n hl
 have k1:=fun n=>vr s n hl
 have k3:=fun n=>NB s n hl
 have kA:=fun n=>uO s.aj n hl
 have kC:=AL s s.calls hl (by omega);simp only [aq.cells] at kA;simp only [af.cells] at k1 k2 k3 kC |-;refine bu 98 1 [.tmp 2] mixed Tryz.func72 ?_;simp only [go_sem,seval,aJ];refine aC.walk (S:=Unit) s.book.qs.length [1,3,4,5,19,20] [32,64,256,272,336] (fun i _=>[(21,.int .i64 i)]) (fun i _=>[]) (fun i _=>∀ j (hj:j < s.book.qs.length),j < i->FM s.aj s.book.qs[j]=true) () (by intros;omega) ?_ ?_ ?_
 ·simp only [go_sem,seval]<;>simp
 ·intro i _ hi hdi hw hI;have hm:=aG (c:=aB.cells) s.book.qs hi;have e0:=lA hi hI;have e1:FM s.aj s.book.qs[i]=false->l7 s=false:=fun h=>by simp [l7,sH hi h]
  simp only [aB.cells] at hm;simp only [go_sem,seval,hdi,hm];(with_reducible and_intros)<;>first|exact .dq|omega|skip
  refine aa.gen [] [] true (by simp) ?_;simp only [go_sem,seval];refine aU.intro (k3 s.book.qs[i].who) ?_;cases b1:xk s.aj s.book.qs[i].who
  ·have:=e1 (by simp [FM,b1]);simp only [go_sem,seval,b1,this]
  simp only [go_sem,seval,b1];refine aa.gen [] [] true (by simp) ?_;simp only [go_sem,seval];refine aU.intro (k2 s.book.qs[i].inst) ?_;cases b2:br s.aj s.book.qs[i].inst
  ·have:=e1 (by simp [FM,b1,b2]);simp only [go_sem,seval,b2,this]
  simp only [go_sem,seval,b2,hw];refine ah.step () hi (e0 (by simp [FM,b1,b2])) ?_;simp only [go_sem,seval]
 intro _ hdx hI;have hA:=nS hI;have eA:l7 s=(s.book.ts.all (wF s.aj)&&(s.ps.all (vi s.aj)&&s.calls.all (pY s.aj))):=by simp [l7,hA]
 rw [eA];clear eA hA hI;simp only [go_sem,seval,hdx,aJ];clear hdx;refine aC.walk (S:=Unit) s.book.ts.length [1,3,4,5,42,43] [32,64,256,272,704] (fun i _=>[(44,.int .i64 i)]) (fun i _=>[]) (fun i _=>∀ j (hj:j < s.book.ts.length),j < i->wF s.aj s.book.ts[j]=true) () (by intros;omega) ?_ ?_ ?_
 ·simp only [go_sem,seval]<;>simp
 ·intro i _ hi hdi hw hI;have hm:=aG (c:=aL.cells) s.book.ts hi;have e0:=lA hi hI;have e1:wF s.aj s.book.ts[i]=false->(s.book.ts.all (wF s.aj)&&(s.ps.all (vi s.aj)&&s.calls.all (pY s.aj)))=false:=fun h=>by simp [sH hi h]
  simp only [aL.cells] at hm;simp only [go_sem,seval,hdi,hm];(with_reducible and_intros)<;>first|exact .dq|omega|skip
  refine aa.gen [] [] true (by simp) ?_;simp only [go_sem,seval];refine aU.intro (k1 s.book.ts[i].gp) ?_;cases b1:bJ s.aj s.book.ts[i].gp==0
  case true =>
   have:=e1 (by simp only [wF,b1];rfl);simp only [go_sem,seval,b1,this]
  simp only [go_sem,seval,b1];refine aa.gen [] [] true (by simp) ?_;simp only [go_sem,seval];refine aU.intro (k1 s.book.ts[i].eC) ?_;cases b2:bJ s.aj s.book.ts[i].eC==0
  case true =>
   have:=e1 (by simp only [wF,b1,b2];rfl);simp only [go_sem,seval,b2,this]
  simp only [go_sem,seval,b2];refine aa.gen [] [] true (by simp) ?_;simp only [go_sem,seval];refine aU.intro (k2 s.book.ts[i].inst) ?_;cases b3:br s.aj s.book.ts[i].inst
  ·have:=e1 (by simp only [wF,b1,b2,b3];rfl);simp only [go_sem,seval,b3,this]
  simp only [go_sem,seval,b3,hw];refine ah.step () hi (e0 (by simp only [wF,b1,b2,b3];rfl)) ?_;simp only [go_sem,seval]
 intro _ hdx hI;have hA:=nS hI;rw [hA,Bool.true_and];clear hA hI;have hpl:(pl s.ps).length=s.ps.length:=oR s.ps;simp only [go_sem,seval,hdx];clear hdx;refine aC.walk (S:=Unit) s.ps.length [1,3,5,69,70] [32,64,272,1136] (fun i _=>[(71,.int .i64 i)]) (fun i _=>[]) (fun i _=>∀ j (hj:j < s.ps.length),j < i->vi s.aj s.ps[j]=true) () (by intros;omega) ?_ ?_ ?_
 ·simp only [go_sem,seval]<;>simp
 ·intro i _ hi hdi hw hI;have hm:=nq s.ps hi;have e0:=lA hi hI;have e1:vi s.aj s.ps[i]=false->(s.ps.all (vi s.aj)&&s.calls.all (pY s.aj))=false:=fun h=>by simp [sH hi h]
  have hA:=kA s.ps[i].bG;obtain ⟨g,hg⟩:=aH (fX au.a s.ps[i].bG ⟨0,0,0,0⟩ s.aj.xs);have hAe:decide (0<=iJ au.a s.ps[i].bG s.aj.xs)=jN s.aj s.ps[i].bG:=rfl;rw [<- hg,hAe] at hA;simp only [au.cells] at hA;simp only [go_sem,seval,hdi,hm];(with_reducible and_intros)<;>first|exact .dq|omega|skip
  refine aa.pure hA ?_;simp only [go_sem,seval];refine aa.gen [] [] true (by simp) ?_;simp only [go_sem,seval];refine aU.intro (k3 s.ps[i].who) ?_;cases b1:xk s.aj s.ps[i].who
  ·have:=e1 (by simp only [vi,b1];rfl);simp only [go_sem,seval,b1,this]
  cases b2:jN s.aj s.ps[i].bG
  ·have:=e1 (by simp only [vi,b1,b2];rfl);simp only [go_sem,seval,b1,b2,this]
  simp only [go_sem,seval,b1,b2,hw];refine ah.step () hi (e0 (by simp only [vi,b1,b2];rfl)) ?_;simp only [go_sem,seval]
 intro _ hdx hI;have hA:=nS hI;rw [hA,Bool.true_and];clear hA hI;simp only [go_sem,seval,hdx];refine aa.gen [32,64] [] true (by simp) ?_;simp only [go_sem,seval];refine aU.intro kC ?_;simp only [go_sem,seval,Bool.not_not]
def MP (x y:Int):Int:=if x < y then -1 else if y < x then 1 else 0
theorem G4 (x:Int):Abs.Spec Tryz.prog 260 [] [.int .i64 x] [] (.bool false):=by
 refine bu 6 1 [.tmp 2] mixed Tryz.func260 ?_;simp only [go_sem,seval,bne,beq_self_eq_true,Bool.not_true]
theorem tu (x y:Int):Abs.Spec Tryz.prog 219 [] [.int .i64 x,.int .i64 y] [] (.int .i64 (MP x y)):=by
 have h1:=G4 x;have h2:=G4 y;refine bu 20 2 [.tmp 4] mixed Tryz.func219 ?_;simp only [go_sem,seval];refine aa.pure h1 ?_;simp only [go_sem,seval];refine aa.pure h2 ?_;simp only [MP];rcases Int.lt_or_le x y with h | h
 ·have d:decide (x < y)=true:=decide_eq_true h;simp only [go_sem,seval,d,if_pos h]
 ·have d:decide (x < y)=false:=decide_eq_false (by omega);rw [if_neg (by omega)];rcases Int.lt_or_le y x with h3 | h3
  ·have d2:decide (y < x)=true:=decide_eq_true h3;simp only [go_sem,seval,d,d2,if_pos h3]
  ·have d2:decide (y < x)=false:=decide_eq_false (by omega);simp only [go_sem,seval,d,d2,if_neg (show ¬ y < x by omega)]
def Vl:List Int->Int
 | []=>0
 | x :: xs=>if x=0 then Vl xs else x
theorem L9 (xs:List Int) (hn:xs.length < 2 ^ 60):Abs.Spec Tryz.prog 218 [] [.sl 1 (ints xs)] [] (.int .i64 (Vl xs)):=by
 refine bu 18 1 [.tmp 2] mixed Tryz.func218 ?_;simp only [go_sem,seval,av];refine aC.walk (S:=Unit) xs.length [3,6,7] [128] (fun i _=>[(8,.int .i64 i)]) (fun i _=>[]) (fun i _=>Vl (xs.drop i)=Vl xs) () (by simp) ?_ ?_ ?_
 ·simp only [go_sem,seval]<;>simp
 ·intro i _ hi hdi hw hI;have hat:=ints_at xs hi;obtain ⟨x,hx⟩:=aH (xs[i]);have hd:Vl (xs.drop i)=if x=0 then Vl (xs.drop (i+1)) else x:=by rw [dN hi,Vl,hx]
  rw [hd] at hI;rw [<- hx] at hat;simp only [go_sem,seval,av,hdi,hat];(with_reducible and_intros)<;>first|exact .dq|omega|skip
  cases hb:x==0
  ·have h0:x≠0:=by simpa using hb
   rw [if_neg h0] at hI;rw [hI] at hb;simp only [go_sem,seval,bne,hb,hI]
  ·have h0:x=0:=by simpa using hb
   rw [if_pos h0] at hI;simp only [go_sem,seval,bne,hb,hw];refine ah.step () hi hI ?_;simp only [go_sem,seval]
 ·intro _ hdx hI;rw [List.drop_length,Vl] at hI;simp only [go_sem,seval,av,hdx,<- hI]
theorem Od (x y:Int):Abs.Spec Tryz.prog 218 [] [.sl 1 [[.int .i64 x],[.int .i64 y]]] [] (.int .i64 (if x=0 then y else x)):=by
 have h:=L9 [x,y] (by simp)
 have e:Vl [x,y]=if x=0 then y else x:=by
  simp only [Vl];split<;>try rfl
  split<;>rename_i h<;>simp_all
 rw [e] at h;exact h
def bQ (a b:aA):Bool:=decide (a.who < b.who)||(a.who==b.who&&decide (a.cur < b.cur))
def G1 (a:aA) (w c:Int):Int:=if MP a.who w=0 then MP a.cur c else MP a.who w
theorem Lz (a b:aA):decide (0<=G1 a b.who b.cur) = !bQ a b:=by
 rw [Bool.eq_iff_iff,decide_eq_true_iff];simp only [G1,MP,bQ,Bool.not_eq_true',Bool.or_eq_false_iff,decide_eq_false_iff_not,Bool.and_eq_false_iff,beq_eq_false_iff_ne]
 repeat' split
 all_goals omega
theorem B9 (a:aA) (w c:Int):Abs.Spec Tryz.prog 155 [] [.agg a.cells,.int .i64 w,.int .i64 c] [] (.int .i64 (G1 a w c)):=by
 have h1:=tu a.who w;have h2:=tu a.cur c;have h3:=Od (MP a.who w) (MP a.cur c);simp only [aA.cells];refine bu 19 3 [.tmp 6] mixed Tryz.func155 ?_;simp only [go_sem,seval];(with_reducible and_intros)<;>first|exact .dq|omega|skip
 refine aa.pure h1 ?_;simp only [go_sem,seval];(with_reducible and_intros)<;>first|exact .dq|omega|skip
 refine aa.pure h2 ?_;simp only [go_sem,seval];(with_reducible and_intros)<;>first|exact .dq|omega|skip
 refine aa.gen [] [] true (by simp) ?_;simp only [go_sem,seval];refine aU.intro h3 ?_;simp only [go_sem,seval,G1]
def bV (c:aA):Bool:=(within c.who 1 16&&within c.cur 0 2)&&(within c.cm 1 4611686018427387904&&within c.till 0 1099511627776)
theorem FH (w c:Int):Abs.Spec Tryz.prog 154 [] [.int .i64 w,.int .i64 c] [] (.bool (within w 1 16&&within c 0 2)):=by
 refine bu 19 2 [.tmp 4] mixed Tryz.func154 ?_;simp only [go_sem,seval]
 repeat' with_reducible first|apply And.intro|exact .dq|refine aa.pure (by assumption) ?_|refine .aT (fun h=>?_) fun h=>?_|refine .aO (fun h=>?_) fun h=>?_|refine .aS (fun h=>?_) fun h=>?_|refine .split (fun h=>?_) fun h=>?_|refine .id ?_|refine ah.next (by omega) ?_ ?_|exact trivial|simp only [*,go_sem,seval]
 all_goals (simp_all [within];try omega)
theorem AI (a b:aQ):Abs.Spec Tryz.prog 243 [] [.agg a.cells,.agg b.cells] [] (.bool (decide (a.who < b.who)||(a.who==b.who&&decide (a.cur < b.cur)))):=by
 simp only [aQ.cells];refine bu 24 2 [.tmp 4] mixed Tryz.func243 ?_;simp only [go_sem,seval]
 repeat' with_reducible first|apply And.intro|exact .dq|refine aa.pure (by assumption) ?_|refine .aT (fun h=>?_) fun h=>?_|refine .aO (fun h=>?_) fun h=>?_|refine .aS (fun h=>?_) fun h=>?_|refine .split (fun h=>?_) fun h=>?_|refine .id ?_|refine ah.next (by omega) ?_ ?_|exact trivial|simp only [*,go_sem,seval]
 all_goals (simp_all)
theorem F6 (cs:List aA) (hl:cs.length < 2 ^ 30):Abs.Spec Tryz.prog 71 [] [.sl 4 (cs.map aA.cells)] [] (.int .i64 (if mO bV bQ cs then 0 else 14)):=by
 refine bu 64 1 [.tmp 2] mixed Tryz.func71 ?_;simp only [go_sem,seval,aJ];refine aC.count cs.length [0,5,6] [112] (fun i=>[(7,.int .i64 i)]) (fun i=>[]) (fun i=>∀ j < i,lz bV bQ cs j=true) (by simp) ?_ ?_
 ·simp only [go_sem,seval]<;>simp
 intro i hi hI;simp only [go_sem,seval,aJ];refine bH.aO (fun h=>?_) (fun h=>?_)
 ·have hi':i < cs.length:=by omega
  have hw:IntKind.wrap .i64 ((i:Int)+1)=((i+1:Nat):Int):=by rw [bn (by omega) (by omega)];omega
  have hm:=aG (c:=aA.cells) cs hi';have e0:=nN (i:=i) hI;have e1:lz bV bQ cs i=false->mO bV bQ cs=false:=sj hi';have h1:=FH cs[i].who cs[i].cur;have h2:Abs.Spec Tryz.prog 144 [] [.sl 1 [[.int .i64 cs[i].cm]]] [] (.bool (right [cs[i].cm])):=gA [cs[i].cm] (by simp);rw [mG] at h2;have hamt:(bL cs[i].cm&&!decide (cs[i].cm < 1))=within cs[i].cm 1 4611686018427387904:=by rw [Bool.eq_iff_iff];simp [bL,within];omega
  have htl:(!decide (cs[i].till < 0)&&!decide (1099511627776 < cs[i].till))=within cs[i].till 0 1099511627776:=by rw [Bool.eq_iff_iff];simp [within]
  simp only [aA.cells] at hm;rcases Nat.eq_zero_or_pos i with rfl | hpos
  ·have hk:=gJ (ok:=bV) (lt:=bQ) hi';simp only [bV,<- hamt,<- htl] at hk;simp only [go_sem,seval,hm,aJ]
   repeat' with_reducible first|apply And.intro|exact .dq|refine aa.pure (by assumption) ?_|refine aa.pure (h1) ?_|(refine aa.gen [] [] true (by simp) ?_;simp only [go_sem,seval];refine aU.intro h2 ?_)|refine .aT (fun h=>?_) fun h=>?_|refine .aO (fun h=>?_) fun h=>?_|refine .aS (fun h=>?_) fun h=>?_|refine .split (fun h=>?_) fun h=>?_|refine .id ?_|refine ah.next (by omega) ?_ ?_|exact trivial|simp only [*,go_sem,seval]
   all_goals first
    | omega
    | rfl
    | (refine e0 ?_;clear e0 e1;rw [hk];clear hk;simp_all;done)
    | (refine e0 ?_;clear e0 e1;rw [hk];clear hk;simp_all;omega)
    | (rw [e1 ?_];clear e0 e1;rw [hk];clear hk;simp_all;done)
    | (rw [e1 ?_];clear e0 e1;rw [hk];clear hk;simp_all;omega)
    | (rw [e1 ?_]
       ·rfl
       ·clear e0 e1;rw [hk];clear hk;simp_all;done)
    | (rw [e1 ?_]
       ·rfl
       ·clear e0 e1;rw [hk];clear hk;simp_all;omega)
  ·obtain ⟨j,rfl⟩:∃ j,i=j+1:=⟨i-1,by omega⟩
   have hj:j < cs.length:=by omega
   have hw1:IntKind.wrap .i64 (((j+1:Nat):Int)-1)=(j:Int):=by rw [bn (by omega) (by omega)];omega
   have hk:=gm (ok:=bV) (lt:=bQ) hi';simp only [bV,<- hamt,<- htl] at hk;have hmj:=aG (c:=aA.cells) cs hj;have h9:=B9 cs[j] cs[j+1].who cs[j+1].cur;have hlt:=Lz cs[j] cs[j+1];rw [hlt.symm.trans (by rfl:decide (0<=G1 cs[j] cs[j+1].who cs[j+1].cur)=decide (0<=G1 cs[j] cs[j+1].who cs[j+1].cur))] at hlt;simp only [aA.cells] at h9;have hk2:bQ cs[j] cs[j+1] = !decide (0<=G1 cs[j] cs[j+1].who cs[j+1].cur):=by rw [Lz,Bool.not_not]
   rw [hk2] at hk;clear hlt hk2;simp only [aA.cells] at hmj;simp only [go_sem,seval,hm,aJ]
   repeat' with_reducible first|apply And.intro|exact .dq|refine aa.pure (by assumption) ?_|refine aa.pure (h1) ?_|(refine aa.gen [] [] true (by simp) ?_;simp only [go_sem,seval];refine aU.intro h2 ?_)|refine aa.pure (h9) ?_|refine .aT (fun h=>?_) fun h=>?_|refine .aO (fun h=>?_) fun h=>?_|refine .aS (fun h=>?_) fun h=>?_|refine .split (fun h=>?_) fun h=>?_|refine .id ?_|refine ah.next (by omega) ?_ ?_|exact trivial|simp only [*,go_sem,seval,hmj,aJ]
   all_goals first
    | omega
    | rfl
    | (refine e0 ?_;clear e0 e1;rw [hk];clear hk;simp_all;done)
    | (refine e0 ?_;clear e0 e1;rw [hk];clear hk;simp_all;omega)
    | (rw [e1 ?_];clear e0 e1;rw [hk];clear hk;simp_all;done)
    | (rw [e1 ?_];clear e0 e1;rw [hk];clear hk;simp_all;omega)
    | (rw [e1 ?_]
       ·rfl
       ·clear e0 e1;rw [hk];clear hk;simp_all;done)
    | (rw [e1 ?_]
       ·rfl
       ·clear e0 e1;rw [hk];clear hk;simp_all;omega)
 have hCH:=mM (fun j (hj:j < cs.length)=>hI j (by omega));clear hI;simp only [go_sem,seval,hCH]
theorem qi (cs:List aA) (hl:cs.length < 2 ^ 30):Abs.Spec Tryz.prog 226 [] [.sl 4 (cs.map aA.cells)] [] (.bool (mO bV bQ cs)):=by
 refine bu 56 1 [.tmp 2] mixed Tryz.func226 ?_;simp only [go_sem,seval,aJ];refine aC.count cs.length [0] [] (fun i=>[(3,.int .i64 i)]) (fun i=>[]) (fun i=>∀ j < i,lz bV bQ cs j=true) (by simp) ?_ ?_
 ·simp only [go_sem,seval]<;>simp
 intro i hi hI;simp only [go_sem,seval,aJ];refine bH.aO (fun h=>?_) (fun h=>?_)
 ·have hi':i < cs.length:=by omega
  have hw:IntKind.wrap .i64 ((i:Int)+1)=((i+1:Nat):Int):=by rw [bn (by omega) (by omega)];omega
  have hm:=aG (c:=aA.cells) cs hi';have e0:=nN (i:=i) hI;have e1:lz bV bQ cs i=false->mO bV bQ cs=false:=sj hi';have h1:=fO cs[i].who;have h2:=fK cs[i].cur;have h3:=eV cs[i].cm 1 4611686018427387904;have h4:=eV cs[i].till 0 1099511627776;simp only [aA.cells] at hm;rcases Nat.eq_zero_or_pos i with rfl | hpos
  ·have hk:=gJ (ok:=bV) (lt:=bQ) hi';simp only [bV] at hk;simp only [go_sem,seval,hm,aJ]
   repeat' with_reducible first|apply And.intro|exact .dq|refine aa.pure (by assumption) ?_|refine aa.pure (h1) ?_|refine aa.pure (h2) ?_|refine aa.pure (h3) ?_|refine aa.pure (h4) ?_|refine .aT (fun h=>?_) fun h=>?_|refine .aO (fun h=>?_) fun h=>?_|refine .aS (fun h=>?_) fun h=>?_|refine .split (fun h=>?_) fun h=>?_|refine .id ?_|refine ah.next (by omega) ?_ ?_|exact trivial|simp only [*,go_sem,seval]
   all_goals first
    | omega
    | rfl
    | (refine e0 ?_;clear e0 e1;rw [hk];clear hk;simp_all;done)
    | (refine e0 ?_;clear e0 e1;rw [hk];clear hk;simp_all;omega)
    | (rw [e1 ?_];clear e0 e1;rw [hk];clear hk;simp_all;done)
    | (rw [e1 ?_];clear e0 e1;rw [hk];clear hk;simp_all;omega)
    | (rw [e1 ?_]
       ·rfl
       ·clear e0 e1;rw [hk];clear hk;simp_all;done)
    | (rw [e1 ?_]
       ·rfl
       ·clear e0 e1;rw [hk];clear hk;simp_all;omega)
  ·obtain ⟨j,rfl⟩:∃ j,i=j+1:=⟨i-1,by omega⟩
   have hj:j < cs.length:=by omega
   have hw1:IntKind.wrap .i64 (((j+1:Nat):Int)-1)=(j:Int):=by rw [bn (by omega) (by omega)];omega
   have hk:=gm (ok:=bV) (lt:=bQ) hi';simp only [bV] at hk;have hmj:=aG (c:=aA.cells) cs hj;have h9:=AI ⟨cs[j].who,cs[j].cur,cs[j].cm⟩ ⟨cs[j+1].who,cs[j+1].cur,cs[j+1].cm⟩;simp only [aQ.cells] at h9;simp only [bQ] at hk;obtain ⟨lt,hlt⟩:=aH ((decide (cs[j].who < cs[j+1].who)||(cs[j].who==cs[j+1].who&&decide (cs[j].cur < cs[j+1].cur))));rw [<- hlt] at hk h9;clear hlt;simp only [aA.cells] at hmj;simp only [go_sem,seval,hm,aJ]
   repeat' with_reducible first|apply And.intro|exact .dq|refine aa.pure (by assumption) ?_|refine aa.pure (h1) ?_|refine aa.pure (h2) ?_|refine aa.pure (h3) ?_|refine aa.pure (h4) ?_|refine aa.pure (h9) ?_|refine .aT (fun h=>?_) fun h=>?_|refine .aO (fun h=>?_) fun h=>?_|refine .aS (fun h=>?_) fun h=>?_|refine .split (fun h=>?_) fun h=>?_|refine .id ?_|refine ah.next (by omega) ?_ ?_|exact trivial|simp only [*,go_sem,seval,hmj,aJ]
   all_goals first
    | omega
    | rfl
    | (refine e0 ?_;clear e0 e1;rw [hk];clear hk;simp_all;done)
    | (refine e0 ?_;clear e0 e1;rw [hk];clear hk;simp_all;omega)
    | (rw [e1 ?_];clear e0 e1;rw [hk];clear hk;simp_all;done)
    | (rw [e1 ?_];clear e0 e1;rw [hk];clear hk;simp_all;omega)
    | (rw [e1 ?_]
       ·rfl
       ·clear e0 e1;rw [hk];clear hk;simp_all;done)
    | (rw [e1 ?_]
       ·rfl
       ·clear e0 e1;rw [hk];clear hk;simp_all;omega)
 have hCH:=mM (fun j (hj:j < cs.length)=>hI j (by omega));clear hI;simp only [go_sem,seval,hCH]
def qH (s:af):Bool:=within s.now 0 1099511627776&&(within s.day 0 1099511627776&&within s.phase 0 2)
theorem DK (a b c:Int):Abs.Spec Tryz.prog 66 [] [.agg [.int .i64 a,.int .i64 b,.int .i64 c]] [] (.bool (within a 0 1099511627776&&(within b 0 1099511627776&&within c 0 2))):=by
 refine bu 31 1 [.tmp 2] mixed Tryz.func66 ?_;simp only [go_sem,seval]
 repeat' with_reducible first|apply And.intro|exact .dq|refine aa.pure (by assumption) ?_|refine .aT (fun h=>?_) fun h=>?_|refine .aO (fun h=>?_) fun h=>?_|refine .aS (fun h=>?_) fun h=>?_|refine .split (fun h=>?_) fun h=>?_|refine .id ?_|refine ah.next (by omega) ?_ ?_|exact trivial|simp only [*,go_sem,seval]
 all_goals (simp_all [within];try omega)
def kX (b:bM):Bool:=pz b.who b.inst&&(within b.src 1 16&&(within b.bg 1 1048576&&within b.aX 1 1073741824))
theorem HJ (b:bM):Abs.Spec Tryz.prog 73 [] [.agg b.cells] [] (.bool (kX b)):=by
 simp only [bM.cells];refine bu 55 1 [.tmp 2] mixed Tryz.func73 ?_;simp only [go_sem,seval]
 repeat' with_reducible first|apply And.intro|exact .dq|refine aa.pure (by assumption) ?_|refine .aT (fun h=>?_) fun h=>?_|refine .aO (fun h=>?_) fun h=>?_|refine .aS (fun h=>?_) fun h=>?_|refine .split (fun h=>?_) fun h=>?_|refine .id ?_|refine ah.next (by omega) ?_ ?_|exact trivial|simp only [*,go_sem,seval]
 all_goals (simp_all [kX,pz,within];try omega)
def fA (x:ck):Bool:=within x.client 1 8&&within x.seq 1 1099511627776
def dI (a b:ck):Bool:=decide (a.client < b.client)
def bD (s:af):Bool:=qH s&&(s.aj.okB&&(s.book.okB&&(s.aW.okB&&(gj s.ps&&(mO bV bQ s.calls&&(l7 s&&(!decide (32 < (s.bp.length:Int))&&(s.bp.all kX&&mO fA dI s.aN))))))))
theorem DV (s:af) (hs:s.small):Abs.Spec Tryz.prog 35 [] [.agg s.cells] [] (.int .i64 (if bD s then 0 else 14)):=by
 have hfit:s.fit:=⟨hs.aj.small,hs.book,hs.aW,hs.ps⟩
 have c1:=DK s.now s.day s.phase;have c2:=oT s.aj hs.aj.small;have c3:=vm s.book hs.book;have c4:=xT s.aW hs.aW;have c5:=I1 s.ps (by have:=hs.ps;omega);have c6:=F6 s.calls hs.calls;have c7:=Ou s hfit hs.calls;have hbl:=hs.bp;have hsl:=hs.aN;clear hfit;simp only [aq.cells,aF.cells,bz.cells] at c2 c3 c4;simp only [af.cells] at c7 |-;refine bu 106 1 [.tmp 2] mixed Tryz.func35 ?_;simp only [go_sem,seval];refine aa.pure c1 ?_;cases b1:qH s
 ·have e:bD s=false:=by simp [bD,b1]
  simp only [qH] at b1;simp only [go_sem,seval,b1,e]<;>simp
 have b1':=b1;simp only [qH] at b1';simp only [go_sem,seval,b1'];refine aa.pure c2 ?_;cases b2:s.aj.okB
 ·have e:bD s=false:=by simp [bD,b2]
  simp only [go_sem,seval,e]<;>simp
 simp only [go_sem,seval];refine aa.pure c3 ?_;cases b3:s.book.okB
 ·have e:bD s=false:=by simp [bD,b3]
  simp only [go_sem,seval,e]<;>simp
 simp only [go_sem,seval];refine aa.pure c4 ?_;cases b4:s.aW.okB
 ·have e:bD s=false:=by simp [bD,b4]
  simp only [go_sem,seval,e]<;>simp
 simp only [go_sem,seval];refine aa.pure c5 ?_;cases b5:gj s.ps
 ·have e:bD s=false:=by simp [bD,b5]
  simp only [go_sem,seval,e]<;>simp
 simp only [go_sem,seval];refine aa.pure c6 ?_;cases b6:mO bV bQ s.calls
 ·have e:bD s=false:=by simp [bD,b6]
  simp only [go_sem,seval,e]<;>simp
 simp only [go_sem,seval];refine aa.pure c7 ?_;cases b7:l7 s
 ·have e:bD s=false:=by simp [bD,b7]
  simp only [go_sem,seval,e]<;>simp
 cases b8:decide (32 < (s.bp.length:Int))
 case true =>
  have e:bD s=false:=by simp [bD,b8]
  simp only [go_sem,seval,aJ,b8,e]<;>simp
 have e:bD s=(s.bp.all kX&&mO fA dI s.aN):=by simp only [bD,b1,b2,b3,b4,b5,b6,b7,b8,Bool.true_and,Bool.not_false]
 rw [e];clear e c1 c2 c3 c4 c5 c6 c7 b1 b1' b2 b3 b4 b5 b6 b7;simp only [go_sem,seval,aJ,b8];refine aC.walk (S:=Unit) s.bp.length [1,53,54] [32,880] (fun i _=>[(55,.int .i64 i)]) (fun i _=>[]) (fun i _=>∀ j (hj:j < s.bp.length),j < i->kX s.bp[j]=true) () (by intros;omega) ?_ ?_ ?_
 ·simp only [go_sem,seval]<;>simp
 ·intro i _ hi hdi hw hI;have hm:=aG (c:=bM.cells) s.bp hi;have hb:=HJ s.bp[i];have e0:=lA hi hI;have e1:kX s.bp[i]=false->(s.bp.all kX&&mO fA dI s.aN)=false:=fun h=>by simp [sH hi h]
  simp only [bM.cells] at hm hb;simp only [go_sem,seval,hdi,hm];(with_reducible and_intros)<;>first|exact .dq|omega|skip
  refine aa.pure hb ?_;cases b1:kX s.bp[i]
  ·have:=e1 b1;simp only [go_sem,seval,this]<;>simp
  simp only [go_sem,seval,hw];refine ah.step () hi (e0 b1) ?_;simp only [go_sem,seval]
 intro _ hdx hI;have hA:=nS hI;rw [hA,Bool.true_and];clear hI hA;simp only [go_sem,seval,hdx,aJ];clear hdx b8;refine aC.count s.aN.length [1,64,65] [32,1056] (fun i=>[(66,.int .i64 i)]) (fun i=>[]) (fun i=>∀ j < i,lz fA dI s.aN j=true) (by simp) ?_ ?_
 ·simp only [go_sem,seval]<;>simp
 intro i hi hI;simp only [go_sem,seval,aJ];refine bH.aO (fun h=>?_) (fun h=>?_)
 ·have hi':i < s.aN.length:=by omega
  have hw:IntKind.wrap .i64 ((i:Int)+1)=((i+1:Nat):Int):=by rw [bn (by omega) (by omega)];omega
  have hm:=aG (c:=ck.cells) s.aN hi';have e0:=nN (i:=i) hI;have e1:lz fA dI s.aN i=false->mO fA dI s.aN=false:=sj hi'

  simp only [ck.cells] at hm;rcases Nat.eq_zero_or_pos i with rfl | hpos
  ·have hk:=gJ (ok:=fA) (lt:=dI) hi';simp only [fA,dI,within] at hk;simp only [go_sem,seval,hm,aJ]
   repeat' with_reducible first|apply And.intro|exact .dq|refine aa.pure (by assumption) ?_|refine .aT (fun h=>?_) fun h=>?_|refine .aO (fun h=>?_) fun h=>?_|refine .aS (fun h=>?_) fun h=>?_|refine .split (fun h=>?_) fun h=>?_|refine .id ?_|refine ah.next (by omega) ?_ ?_|exact trivial|simp only [*,go_sem,seval]
   all_goals first
    | omega
    | rfl
    | (refine e0 ?_;clear e0 e1;rw [hk];clear hk;simp_all;done)
    | (refine e0 ?_;clear e0 e1;rw [hk];clear hk;simp_all;omega)
    | (rw [e1 ?_];clear e0 e1;rw [hk];clear hk;simp_all;done)
    | (rw [e1 ?_];clear e0 e1;rw [hk];clear hk;simp_all;omega)
    | (rw [e1 ?_]
       ·rfl
       ·clear e0 e1;rw [hk];clear hk;simp_all;done)
    | (rw [e1 ?_]
       ·rfl
       ·clear e0 e1;rw [hk];clear hk;simp_all;omega)
  ·obtain ⟨j,rfl⟩:∃ j,i=j+1:=⟨i-1,by omega⟩
   have hj:j < s.aN.length:=by omega
   have hw1:IntKind.wrap .i64 (((j+1:Nat):Int)-1)=(j:Int):=by rw [bn (by omega) (by omega)];omega
   have hk:=gm (ok:=fA) (lt:=dI) hi';simp only [fA,dI,within] at hk;have hmj:=aG (c:=ck.cells) s.aN hj

   simp only [ck.cells] at hmj;simp only [go_sem,seval,hm,aJ]
   repeat' with_reducible first|apply And.intro|exact .dq|refine aa.pure (by assumption) ?_|refine .aT (fun h=>?_) fun h=>?_|refine .aO (fun h=>?_) fun h=>?_|refine .aS (fun h=>?_) fun h=>?_|refine .split (fun h=>?_) fun h=>?_|refine .id ?_|refine ah.next (by omega) ?_ ?_|exact trivial|simp only [*,go_sem,seval,hmj,aJ]
   all_goals first
    | omega
    | rfl
    | (refine e0 ?_;clear e0 e1;rw [hk];clear hk;simp_all;done)
    | (refine e0 ?_;clear e0 e1;rw [hk];clear hk;simp_all;omega)
    | (rw [e1 ?_];clear e0 e1;rw [hk];clear hk;simp_all;done)
    | (rw [e1 ?_];clear e0 e1;rw [hk];clear hk;simp_all;omega)
    | (rw [e1 ?_]
       ·rfl
       ·clear e0 e1;rw [hk];clear hk;simp_all;done)
    | (rw [e1 ?_]
       ·rfl
       ·clear e0 e1;rw [hk];clear hk;simp_all;omega)
 have hCH:=mM (fun j (hj:j < s.aN.length)=>hI j (by omega));clear hI;simp only [go_sem,seval,hCH]
theorem fN (a b c:Int):Abs.Spec Tryz.prog 199 [] [.int .i64 a,.int .i64 b,.int .i64 c] [] (.bool (within a b c)):=by
 refine bu 15 3 [.tmp 6] mixed Tryz.func199 ?_;simp only [go_sem,seval]
 repeat' with_reducible first|apply And.intro|exact .dq|refine aa.pure (by assumption) ?_|refine .aT (fun h=>?_) fun h=>?_|refine .aO (fun h=>?_) fun h=>?_|refine .aS (fun h=>?_) fun h=>?_|refine .split (fun h=>?_) fun h=>?_|refine .id ?_|refine ah.next (by omega) ?_ ?_|exact trivial|simp only [*,go_sem,seval]
 all_goals (simp only [within];simp<;>omega)
theorem ct (r:aq) (n:Int) (hl:r.small):Abs.Spec Tryz.prog 180 [] [.agg r.cells,.int .i64 n] [] (.bI [.agg (ew r n).cells,.bool (dQ r n)]):=by
 obtain ⟨l1,l2,l3⟩:=hl;simp only [aq.cells];refine bu 28 2 [.cell 4 49,.tmp 5] mixed Tryz.func180 ?_;simp only [go_sem,seval,aJ];refine aC.walk (S:=Unit) r.ms.length [1,2,4] [48,80] (fun i _=>[(6,.int .i64 i)]) (fun i _=>[]) (fun i _=>∀ j (hj:j < r.ms.length),j < i->r.ms[j].no≠n) () (by intros;omega) ?_ ?_ ?_
 ·simp only [go_sem,seval]<;>simp
 ·intro i _ hi hdi hw hI;have hm:=aG (c:=ak.cells) r.ms hi;have hlt:(i:Int) < (r.ms.length:Int):=by omega
  simp only [ak.cells] at hm |-;simp only [go_sem,seval,aJ,hdi,hm];(with_reducible and_intros)<;>first|exact .dq|omega|skip
  cases hb:r.ms[i].no==n
  ·have hb2:r.ms[i].no≠n:=by simpa using hb
   simp only [go_sem,seval,hw];refine ah.step () hi ?_ ?_
   ·intro j hj hji;rcases Nat.lt_or_ge j i with h | h
    ·exact hI j hj h
    ·obtain rfl:j=i:=by omega
     exact hb2
   ·simp only [go_sem,seval]
  ·have hb2:r.ms[i].no=n:=by simpa using hb
   obtain ⟨g1,g2⟩:=jg (z:=ak.zero) hi hI hb2;have e1:ew r n=r.ms[i]:=g1;have e2:dQ r n=true:=by simp [dQ,g2]
   rw [e1,e2];simp only [go_sem,seval,hm,aJ];(with_reducible and_intros)<;>first|exact .dq|omega|skip
 ·intro _ hdx hI;obtain ⟨g1,g2⟩:=gK (z:=ak.zero) (fun j hj=>hI j hj hj);have e1:ew r n=ak.zero:=g1;have e2:dQ r n=false:=by simp [dQ,g2]
  rw [e1,e2];simp only [go_sem,seval,aJ,hdx,ak.cells,ak.zero]
theorem mT (s:af) (n:Int) (hl:s.aj.small):Abs.Spec Tryz.prog 235 [] [.agg s.cells,.int .i64 n] [] (.int .i64 (bJ s.aj n)):=by
 have h:=ct s.aj n hl;simp only [bJ];obtain ⟨g,hg⟩:=aH (ew s.aj n);rw [<- hg] at h |-;simp only [aq.cells,ak.cells] at h;simp only [af.cells];refine bu 16 2 [.tmp 4] mixed Tryz.func235 ?_;simp only [go_sem,seval];refine aa.pure h ?_;simp only [go_sem,seval]
theorem G6 (s:af) (n:Int) (hl:s.aj.small):Abs.Spec Tryz.prog 236 [] [.agg s.cells,.int .i64 n] [] (.bool (br s.aj n)):=by
 have h:=dz s.aj n hl;obtain ⟨g,hg⟩:=aH (bf s.aj n);rw [<- hg] at h;simp only [aq.cells,ay.cells] at h;simp only [af.cells];refine bu 15 2 [.tmp 4] mixed Tryz.func236 ?_;simp only [go_sem,seval];refine aa.pure h ?_;simp only [go_sem,seval]
theorem Kt (s:af) (hl:s.bp.length < 2 ^ 30):Abs.Spec Tryz.prog 237 [] [.agg s.cells] [] (.bool (!decide (32 < (s.bp.length:Int))&&s.bp.all kX)):=by
 simp only [af.cells];refine bu 43 1 [.tmp 2] mixed Tryz.func237 ?_;simp only [go_sem,seval,aJ];refine aC.walk (S:=Unit) s.bp.length [1] [32] (fun i _=>[(3,.int .i64 i)]) (fun i _=>[]) (fun i _=>∀ j (hj:j < s.bp.length),j < i->kX s.bp[j]=true) () (by intros;omega) ?_ ?_ ?_
 ·simp only [go_sem,seval]<;>simp
 ·intro i _ hi hdi hw hI;have hm:=aG (c:=bM.cells) s.bp hi;have h1:=pX s.bp[i].who s.bp[i].inst;have h2:=fO s.bp[i].src;have h3:=fN s.bp[i].bg 1 1048576;have h4:=fN s.bp[i].aX 1 1073741824;have hli:(i:Int) < (s.bp.length:Int):=by omega
  have e0:=lA hi hI;have e1:kX s.bp[i]=false->(!decide (32 < (s.bp.length:Int))&&s.bp.all kX)=false:=fun h=>by simp [sH hi h]
  simp only [kX] at e0 e1;simp only [bM.cells] at hm;simp only [go_sem,seval,hdi,aJ,hm];(with_reducible and_intros)<;>first|exact .dq|omega|skip
  refine aa.pure h1 ?_;cases b1:pz s.bp[i].who s.bp[i].inst
  ·have:=e1 (by simp [b1]);simp only [go_sem,seval,this]
  simp only [go_sem,seval];refine aa.pure h2 ?_;cases b2:within s.bp[i].src 1 16
  ·have:=e1 (by simp [b2]);simp only [go_sem,seval,this]
  simp only [go_sem,seval];refine aa.pure h3 ?_;cases b3:within s.bp[i].bg 1 1048576
  ·have:=e1 (by simp [b3]);simp only [go_sem,seval,this]
  simp only [go_sem,seval];refine aa.pure h4 ?_;cases b4:within s.bp[i].aX 1 1073741824
  ·have:=e1 (by simp [b4]);simp only [go_sem,seval,this]
  simp only [go_sem,seval,hw];refine ah.step () hi (e0 (by simp [b1,b2,b3,b4])) ?_;simp only [go_sem,seval]
 ·intro _ hdx hI;have hA:=nS hI;have e:decide ((s.bp.length:Int)<=32) = !decide (32 < (s.bp.length:Int)):=by rw [Bool.eq_iff_iff];simp
  simp only [go_sem,seval,hdx,aJ,hA,Bool.and_true,e]
theorem Hh (s:af) (hl:s.aN.length < 2 ^ 30):Abs.Spec Tryz.prog 238 [] [.agg s.cells] [] (.bool (mO fA dI s.aN)):=by
 simp only [af.cells];refine bu 43 1 [.tmp 2] mixed Tryz.func238 ?_;simp only [go_sem,seval,aJ];refine aC.count s.aN.length [1] [32] (fun i=>[(3,.int .i64 i)]) (fun i=>[]) (fun i=>∀ j < i,lz fA dI s.aN j=true) (by simp) ?_ ?_
 ·simp only [go_sem,seval]<;>simp
 intro i hi hI;simp only [go_sem,seval,aJ];refine bH.aO (fun h=>?_) (fun h=>?_)
 ·have hi':i < s.aN.length:=by omega
  have hw:IntKind.wrap .i64 ((i:Int)+1)=((i+1:Nat):Int):=by rw [bn (by omega) (by omega)];omega
  have hm:=aG (c:=ck.cells) s.aN hi';have e0:=nN (i:=i) hI;have e1:lz fA dI s.aN i=false->mO fA dI s.aN=false:=sj hi';have h1:=fN s.aN[i].client 1 8;have h2:=fN s.aN[i].seq 1 1099511627776;simp only [ck.cells] at hm;rcases Nat.eq_zero_or_pos i with rfl | hpos
  ·have hk:=gJ (ok:=fA) (lt:=dI) hi';simp only [fA,dI] at hk;simp only [go_sem,seval,hm,aJ]
   repeat' with_reducible first|apply And.intro|exact .dq|refine aa.pure (by assumption) ?_|refine aa.pure (h1) ?_|refine aa.pure (h2) ?_|refine .aT (fun h=>?_) fun h=>?_|refine .aO (fun h=>?_) fun h=>?_|refine .aS (fun h=>?_) fun h=>?_|refine .split (fun h=>?_) fun h=>?_|refine .id ?_|refine ah.next (by omega) ?_ ?_|exact trivial|simp only [*,go_sem,seval]
   all_goals first
    | omega
    | rfl
    | (refine e0 ?_;clear e0 e1;rw [hk];clear hk;simp_all;done)
    | (refine e0 ?_;clear e0 e1;rw [hk];clear hk;simp_all;omega)
    | (rw [e1 ?_];clear e0 e1;rw [hk];clear hk;simp_all;done)
    | (rw [e1 ?_];clear e0 e1;rw [hk];clear hk;simp_all;omega)
    | (rw [e1 ?_]
       ·rfl
       ·clear e0 e1;rw [hk];clear hk;simp_all;done)
    | (rw [e1 ?_]
       ·rfl
       ·clear e0 e1;rw [hk];clear hk;simp_all;omega)
  ·obtain ⟨j,rfl⟩:∃ j,i=j+1:=⟨i-1,by omega⟩
   have hj:j < s.aN.length:=by omega
   have hw1:IntKind.wrap .i64 (((j+1:Nat):Int)-1)=(j:Int):=by rw [bn (by omega) (by omega)];omega
   have hk:=gm (ok:=fA) (lt:=dI) hi';simp only [fA,dI] at hk;have hmj:=aG (c:=ck.cells) s.aN hj;have hlt:decide (s.aN[j].client < s.aN[j+1].client) = !decide (s.aN[j+1].client<=s.aN[j].client):=by rw [Bool.eq_iff_iff];simp
   rw [hlt] at hk;clear hlt;simp only [ck.cells] at hmj;simp only [go_sem,seval,hm,aJ]
   repeat' with_reducible first|apply And.intro|exact .dq|refine aa.pure (by assumption) ?_|refine aa.pure (h1) ?_|refine aa.pure (h2) ?_|refine .aT (fun h=>?_) fun h=>?_|refine .aO (fun h=>?_) fun h=>?_|refine .aS (fun h=>?_) fun h=>?_|refine .split (fun h=>?_) fun h=>?_|refine .id ?_|refine ah.next (by omega) ?_ ?_|exact trivial|simp only [*,go_sem,seval,hmj,aJ]
   all_goals first
    | omega
    | rfl
    | (refine e0 ?_;clear e0 e1;rw [hk];clear hk;simp_all;done)
    | (refine e0 ?_;clear e0 e1;rw [hk];clear hk;simp_all;omega)
    | (rw [e1 ?_];clear e0 e1;rw [hk];clear hk;simp_all;done)
    | (rw [e1 ?_];clear e0 e1;rw [hk];clear hk;simp_all;omega)
    | (rw [e1 ?_]
       ·rfl
       ·clear e0 e1;rw [hk];clear hk;simp_all;done)
    | (rw [e1 ?_]
       ·rfl
       ·clear e0 e1;rw [hk];clear hk;simp_all;omega)
 have hCH:=mM (fun j (hj:j < s.aN.length)=>hI j (by omega));clear hI;simp only [go_sem,seval,hCH]
theorem Vc {r:aq} (h:r.okB=true) (n:Int):0<=bJ r n/\bJ r n<=3:=by
 simp only [aq.okB,cr] at h;have hm:=qL h.1.1;unfold bJ ew;generalize r.ms=ms at hm
 induction ms with
 | nil=>simp [fX,ak.zero]
 | cons x t ih =>
  simp only [fX];split
  ·have:=hm x (by simp);simp only [ak.ok,within,cr,decide_eq_true_eq] at this;omega
  ·exact ih fun y hy=>hm y (by simp [hy])
theorem V3 {r:aq} (h:r.okB=true) (n:Int):xk r n=(!(bJ r n==0)&&!(bJ r n==3)):=by
 have:=Vc h n;rw [Bool.eq_iff_iff];simp only [xk,Bool.or_eq_true,cr,Bool.not_eq_true',beq_iff_eq,beq_eq_false_iff_ne];omega
theorem gN (s:af) (hs:s.small) (hr:s.cU):Abs.Spec Tryz.prog 192 [] [.agg s.cells] [] (.bool (bD s)):=by
 have hro:=hs.aj.small;have a1:=fN s.now 0 1099511627776;have a2:=fN s.day 0 1099511627776;have a3:=fN s.phase 0 2;have c2:=dL s.aj hro;have c3:=iA s.book hs.book hr.qs;have c4:=iL s.aW hs.aW hr.bs;have c5:=nE s.ps (by have:=hs.ps;omega);have c6:=qi s.calls hs.calls;have kS:=fun n=>mT s n hro
 have kL:=fun n=>G6 s n hro
 have kH:=fun n=>lg s.aj n hro
 have c7:=Kt s hs.bp;have c8:=Hh s hs.aN;obtain ⟨hb1,hb2⟩:=hs.book;have hpl:=hs.ps;have hcl:=hs.calls;have hop:=fun h n=>V3 (r:=s.aj) h n
 simp only [aq.cells,aF.cells,bz.cells] at c2 c3 c4 kH;simp only [af.cells] at kS kL c7 c8 |-;clear hs hr hro;refine bu 197 1 [.tmp 2] mixed Tryz.func192 ?_;simp only [go_sem,seval];refine aa.pure a1 ?_;cases q1:within s.now 0 1099511627776
 ·have e:bD s=false:=by simp [bD,qH,q1]
  simp only [go_sem,seval,e]
 simp only [go_sem,seval];refine aa.pure a2 ?_;cases q2:within s.day 0 1099511627776
 ·have e:bD s=false:=by simp [bD,qH,q2]
  simp only [go_sem,seval,e]
 simp only [go_sem,seval];refine aa.pure a3 ?_;cases q3:within s.phase 0 2
 ·have e:bD s=false:=by simp [bD,qH,q3]
  simp only [go_sem,seval,e]
 simp only [go_sem,seval];refine aa.pure c2 ?_;cases b2:s.aj.okB
 ·have e:bD s=false:=by simp [bD,b2]
  simp only [go_sem,seval,e]
 simp only [go_sem,seval];refine aa.pure c3 ?_;cases b3:s.book.okB
 ·have e:bD s=false:=by simp [bD,b3]
  simp only [go_sem,seval,e]
 simp only [go_sem,seval];refine aa.pure c4 ?_;cases b4:s.aW.okB
 ·have e:bD s=false:=by simp [bD,b4]
  simp only [go_sem,seval,e]
 simp only [go_sem,seval];refine aa.pure c5 ?_;cases b5:gj s.ps
 ·have e:bD s=false:=by simp [bD,b5]
  simp only [go_sem,seval,e]
 simp only [go_sem,seval];refine aa.pure c6 ?_;cases b6:mO bV bQ s.calls
 ·have e:bD s=false:=by simp [bD,b6]
  simp only [go_sem,seval,e]
 have hop:=hop b2;have e:bD s=(l7 s&&(!decide (32 < (s.bp.length:Int))&&(s.bp.all kX&&mO fA dI s.aN))):=by simp only [bD,qH,q1,q2,q3,b2,b3,b4,b5,b6,Bool.true_and]
 rw [e];clear e a1 a2 a3 c2 c3 c4 c5 c6 q1 q2 q3 b2 b3 b4 b5 b6;obtain ⟨R,hR⟩:=aH ((!decide (32 < (s.bp.length:Int))&&(s.bp.all kX&&mO fA dI s.aN)));rw [<- hR];simp only [go_sem,seval,aJ];refine aC.walk (S:=Unit) s.book.qs.length [1] [32] (fun i _=>[(3,.int .i64 i)]) (fun i _=>[]) (fun i _=>∀ j (hj:j < s.book.qs.length),j < i->FM s.aj s.book.qs[j]=true) () (by intros;omega) ?_ ?_ ?_
 ·simp only [go_sem,seval]<;>simp
 ·intro i _ hi hdi hw hI;have hm:=aG (c:=aB.cells) s.book.qs hi;have hli:(i:Int) < (s.book.qs.length:Int):=by omega
  have e0:=lA hi hI;have e1:FM s.aj s.book.qs[i]=false->(l7 s&&R)=false:=fun h=>by simp [l7,sH hi h]
  simp only [FM,hop] at e1;simp only [aB.cells] at hm;simp only [go_sem,seval,hdi,aJ,hm];(with_reducible and_intros)<;>first|exact .dq|omega|skip
  refine aa.pure (kS s.book.qs[i].who) ?_;cases b1:bJ s.aj s.book.qs[i].who==0
  case true =>
   have:=e1 (by simp [b1]);simp only [go_sem,seval,b1,this];(with_reducible and_intros)<;>first|exact .dq|omega|skip
  cases b2:bJ s.aj s.book.qs[i].who==3
  case true =>
   have:=e1 (by simp [b2]);simp only [go_sem,seval,b1,b2,this];(with_reducible and_intros)<;>first|exact .dq|omega|skip
  simp only [go_sem,seval,b1,b2,hm,aJ];(with_reducible and_intros)<;>first|exact .dq|omega|skip
  refine aa.pure (kL s.book.qs[i].inst) ?_;cases b3:br s.aj s.book.qs[i].inst
  ·have:=e1 (by simp [b3]);simp only [go_sem,seval,this]
  simp only [go_sem,seval,hw];refine ah.step () hi (e0 (by simp only [FM,hop,b1,b2,b3];rfl)) ?_;simp only [go_sem,seval]
 intro _ hdx hI;have hA:=nS hI;have eA:(l7 s&&R)=((s.book.ts.all (wF s.aj)&&(s.ps.all (vi s.aj)&&s.calls.all (pY s.aj)))&&R):=by simp [l7,hA]
 rw [eA];clear eA hA hI;simp only [go_sem,seval,hdx,aJ];clear hdx;refine aC.walk (S:=Unit) s.book.ts.length [1] [32] (fun i _=>[(5,.int .i64 i)]) (fun i _=>[]) (fun i _=>∀ j (hj:j < s.book.ts.length),j < i->wF s.aj s.book.ts[j]=true) () (by intros;omega) ?_ ?_ ?_
 ·simp only [go_sem,seval]<;>simp
 ·intro i _ hi hdi hw hI;have hm:=aG (c:=aL.cells) s.book.ts hi;have hli:(i:Int) < (s.book.ts.length:Int):=by omega
  have e0:=lA hi hI;have e1:wF s.aj s.book.ts[i]=false->((s.book.ts.all (wF s.aj)&&(s.ps.all (vi s.aj)&&s.calls.all (pY s.aj)))&&R)=false:=fun h=>by simp [sH hi h]
  simp only [wF] at e1;simp only [aL.cells] at hm;simp only [go_sem,seval,hdi,aJ,hm];(with_reducible and_intros)<;>first|exact .dq|omega|skip
  refine aa.pure (kS s.book.ts[i].gp) ?_;cases b1:bJ s.aj s.book.ts[i].gp==0
  case true =>
   have:=e1 (by simp [b1]);simp only [go_sem,seval,b1];exact this.symm
  simp only [go_sem,seval,b1,hm,aJ];(with_reducible and_intros)<;>first|exact .dq|omega|skip
  refine aa.pure (kS s.book.ts[i].eC) ?_;cases b2:bJ s.aj s.book.ts[i].eC==0
  case true =>
   simp only [go_sem,seval,b2];exact (e1 (by simp [b2])).symm
  simp only [go_sem,seval,b2,hm,aJ];(with_reducible and_intros)<;>first|exact .dq|omega|skip
  refine aa.pure (kL s.book.ts[i].inst) ?_;cases b3:br s.aj s.book.ts[i].inst
  ·simp only [go_sem,seval];exact (e1 (by simp [b3])).symm
  simp only [go_sem,seval,hw];refine ah.step () hi (e0 (by simp only [wF,b1,b2,b3];rfl)) ?_;simp only [go_sem,seval]
 intro _ hdx hI;have hA:=nS hI;rw [hA,Bool.true_and];clear hA hI;have hpln:(pl s.ps).length=s.ps.length:=oR s.ps;simp only [go_sem,seval,hdx];clear hdx;refine aC.walk (S:=Unit) s.ps.length [1] [32] (fun i _=>[(6,.int .i64 i)]) (fun i _=>[]) (fun i _=>∀ j (hj:j < s.ps.length),j < i->vi s.aj s.ps[j]=true) () (by intros;omega) ?_ ?_ ?_
 ·simp only [go_sem,seval]<;>simp
 ·intro i _ hi hdi hw hI;have hm:=nq s.ps hi;have hli:(i:Int) < (s.ps.length:Int):=by omega
  have e0:=lA hi hI;have e1:vi s.aj s.ps[i]=false->((s.ps.all (vi s.aj)&&s.calls.all (pY s.aj))&&R)=false:=fun h=>by simp [sH hi h]
  have e2:vi s.aj s.ps[i]=((!(bJ s.aj s.ps[i].who==0)&&!(bJ s.aj s.ps[i].who==3))&&jN s.aj s.ps[i].bG):=by simp only [vi,hop]
  have hA:=kH s.ps[i].bG;obtain ⟨g,hg⟩:=aH (fX au.a s.ps[i].bG ⟨0,0,0,0⟩ s.aj.xs);have hAe:decide (0<=iJ au.a s.ps[i].bG s.aj.xs)=jN s.aj s.ps[i].bG:=rfl;rw [<- hg,hAe] at hA;simp only [au.cells] at hA;rw [e2] at e0 e1;clear e2;simp only [go_sem,seval,hdi,hm];(with_reducible and_intros)<;>first|exact .dq|omega|skip
  refine aa.pure (kS s.ps[i].who) ?_;simp only [go_sem,seval,hm];(with_reducible and_intros)<;>first|exact .dq|omega|skip
  refine aa.pure hA ?_;cases b1:bJ s.aj s.ps[i].who==0
  case true =>
   simp only [go_sem,seval,b1];(with_reducible and_intros)<;>first|exact .dq|omega|skip
   exact (e1 (by simp [b1])).symm
  cases b2:bJ s.aj s.ps[i].who==3
  case true =>
   simp only [go_sem,seval,b1,b2];(with_reducible and_intros)<;>first|exact .dq|omega|skip
   exact (e1 (by simp [b2])).symm
  cases b3:jN s.aj s.ps[i].bG
  ·simp only [go_sem,seval,b1,b2,b3];(with_reducible and_intros)<;>first|exact .dq|omega|skip
   exact (e1 (by simp [b3])).symm
  simp only [go_sem,seval,b1,b2,b3,hw];(with_reducible and_intros)<;>first|exact .dq|omega|skip
  refine ah.step () hi (e0 (by simp [b1,b2,b3])) ?_;simp only [go_sem,seval]
 intro _ hdx hI;have hA:=nS hI;rw [hA,Bool.true_and];clear hA hI;simp only [go_sem,seval,hdx,aJ];clear hdx;refine aC.walk (S:=Unit) s.calls.length [1] [32] (fun i _=>[(10,.int .i64 i)]) (fun i _=>[]) (fun i _=>∀ j (hj:j < s.calls.length),j < i->pY s.aj s.calls[j]=true) () (by intros;omega) ?_ ?_ ?_
 ·simp only [go_sem,seval]<;>simp
 ·intro i _ hi hdi hw hI;have hm:=aG (c:=aA.cells) s.calls hi;have hli:(i:Int) < (s.calls.length:Int):=by omega
  have e0:=lA hi hI;have e1:pY s.aj s.calls[i]=false->(s.calls.all (pY s.aj)&&R)=false:=fun h=>by simp [sH hi h]
  simp only [aA.cells] at hm;simp only [go_sem,seval,hdi,aJ,hm];(with_reducible and_intros)<;>first|exact .dq|omega|skip
  refine aa.pure (kS s.calls[i].who) ?_;cases b1:bJ s.aj s.calls[i].who==1
  ·simp only [go_sem,seval,bne,b1];exact (e1 b1).symm
  simp only [go_sem,seval,bne,b1,hw];refine ah.step () hi (e0 b1) ?_;simp only [go_sem,seval]
 intro _ hdx hI;have hA:=nS hI;rw [hA,Bool.true_and,hR,<- Bool.and_assoc];clear hA hI hR;simp only [go_sem,seval,hdx,aJ];refine aa.pure c7 ?_;cases b7:(!decide (32 < (s.bp.length:Int))&&s.bp.all kX)
 ·simp only [go_sem,seval,Bool.false_and]
 simp only [go_sem,seval];refine aa.pure c8 ?_;simp only [go_sem,seval,Bool.true_and]
theorem Spec.Vy {P:Program} {f:FuncId} {hs ds ds' hs':List D} {d:D} (h:Abs.Spec P f hs ds hs' d) (hl:mW (fun _=>none) (fun _=>false) ds' ds):Abs.Spec P f hs ds' hs' d:=by
 obtain ⟨h1,h2⟩:=AQ hl;refine ⟨h.1,?_⟩;intro w l0 G0 own0 S0 vs hT hl0 hG hsz hr hobj;refine h.2 w l0 G0 own0 S0 vs hT hl0 hG (by rw [hsz,h1]) ?_ hobj;intro i v y hv hy;have hi:i < ds'.length:=by rw [h1];exact (List.getElem?_eq_some_iff.1 hy).1
 have hx:ds'[i]?=some ds'[i]:=List.getElem?_eq_getElem hi;exact jG.rep (C:=cx w l0 S0) (C':=cx w l0 S0) (fun _ _ h=>h) (by intro s r h;cases h) (by intro s _ h;cases h) (hr i v _ hv hx) (h2 i _ _ hx hy)
structure af.mid (s:af):Prop where
 small:s.small
 bs:s.aW.bs.length < 2 ^ 20
 qs:s.book.qs.length < 2 ^ 20
 ns:s.aj.ns.length < 2 ^ 20
def aeM (l:List ByteArray):List (List D):=l.map fun s=>[.str s]
@[go_sem] theorem aew (l:List ByteArray):(aeM l).length=l.length:=by simp [aeM]
def ahO (s1 s2 s3 s4 s5 s6 s7 s8 s9 s10 s11 s12 s13:ByteArray) (b1 b2 b3 b4 b5 b6 b7 b8 b9 b10 b11 b12 b13:Bool):List (ByteArray × Bool):=[(s1,b1),(s2,b2),(s3,b3),(s4,b4),(s5,b5),(s6,b6),(s7,b7),(s8,b8),(s9,b9),(s10,b10),(s11,b11),(s12,b12),(s13,b13)]
def parts (a b:af):List (ByteArray × Bool):=ahO ⟨#[67,108,111,99,107]⟩ ⟨#[77,101,109,98,101,114,115]⟩ ⟨#[73,110,115,116,115]⟩ ⟨#[65,115,115,101,116,115]⟩ ⟨#[78,101,120,116]⟩ ⟨#[84,114,97,100,101,115]⟩ ⟨#[80,111,115,115]⟩ ⟨#[76,97,115,116]⟩ ⟨#[66,97,108,97,110,99,101,115]⟩ ⟨#[80,108,101,100,103,101,115]⟩ ⟨#[67,97,108,108,115]⟩ ⟨#[66,105,100,115]⟩ ⟨#[83,101,97,116,115]⟩ (a.now==b.now&&(a.day==b.day&&a.phase==b.phase)) (decide (a.aj.ms=b.aj.ms)) (decide (a.aj.ns=b.aj.ns)) (decide (a.aj.xs=b.aj.xs)) (a.book.next==b.book.next) (decide (a.book.ts=b.book.ts)) (decide (a.book.qs=b.book.qs)) (a.aW.last==b.aW.last) (decide (a.aW.bs=b.aW.bs)) (decide (a.ps=b.ps)) (decide (a.calls=b.calls)) (decide (a.bp=b.bp)) (decide (a.aN=b.aN))
@[reducible] def ak3 (x:Int):List D:=[.int .i64 x]
theorem ae9 (n0 n1 n2 n3 n4:Int) (r0 r1 r2 r3 r4 r5 r6 r7 r8 r9:List (List D)):(fM [0,1,2,3,4,5,6,7,8,9] (vl [(0,.agg [.int .i64 n0,.int .i64 n1,.int .i64 n2,.ref 0,.ref 1,.ref 2,.int .i64 n3,.ref 3,.ref 4,.int .i64 n4,.ref 5,.ref 6,.ref 7,.ref 8,.ref 9])] (so 0 [.own 3 r0,.own 12 r1,.own 4 r2,.own 7 r3,.own 4 r4,.own 4 r5,.own 3 r6,.own 4 r7,.own 5 r8,.own 7 r9]))).t 0=.agg [.int .i64 n0,.int .i64 n1,.int .i64 n2,.sl 3 r0,.sl 12 r1,.sl 4 r2,.int .i64 n3,.sl 7 r3,.sl 4 r4,.int .i64 n4,.sl 4 r5,.sl 3 r6,.sl 4 r7,.sl 5 r8,.sl 7 r9]:=by
 kernel_rfl
theorem ZQ (d:D) (r0 r1 r2 r3 r4 r5 r6 r7 r8 r9:List (List D)) (r:Nat):(fM [0,1,2,3,4,5,6,7,8,9] (vl [(0,d)] (so 0 [.own 3 r0,.own 12 r1,.own 4 r2,.own 7 r3,.own 4 r4,.own 4 r5,.own 3 r6,.own 4 r7,.own 5 r8,.own 7 r9]))).o r=[].getD r .undef:=by
 rcases r with _ | _ | _ | _ | _ | _ | _ | _ | _ | _ | r<;>kernel_rfl
theorem aR (s:af) (hs:s.small):Abs.Spec Tryz.prog 52 [] [.agg s.cells] [] (.agg s.cells):=by
 have h:=om s hs;simp only [LB,F5] at h;simp only [af.cells];simp only [af.cells] at h;exact Spec.frozen h [0,1,2,3,4,5,6,7,8,9] (ae9 ..) (fun r=>ZQ ..)
end Go.Proofs.YtnkobepdbkmedaaGreatDoor
