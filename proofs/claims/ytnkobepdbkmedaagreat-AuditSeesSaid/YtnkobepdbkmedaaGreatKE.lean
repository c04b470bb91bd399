/- Sums of quantities, of money, and what follows. No theorem of a claim. -/
import Derived.Test.YtnkobepdbkmedaaGreatKD
set_option linter.unusedSimpArgs false
set_option linter.unusedVariables false
set_option maxHeartbeats 4000000
set_option maxRecDepth 16000
namespace Go.Proofs.YtnkobepdbkmedaaGreat
open Go.Abs
def zC (S:Int):Int:=if bP S then S else 0
def zF (S:Int):Int:=if bP S then 0 else 1
theorem RS {S:Int} (h:pg S=false):bP S=false:=by
 cases hb:bP S
 ·rfl
 ·have:=cm.1 hb;have h2:pg S=true:=by simp only [pg,bZ,decide_eq_true_eq];omega
  rw [h] at h2;cases h2
theorem pO (l:List Int) (hl:l.length < 2 ^ 58) (hr:∀ n∈l,pg n=true):Abs.Spec Tryz.prog 44 [] [.sl 2 (kD l)] [] (.bI [.int .i64 (zC (az l)),.int .i64 (zF (az l))]):=by
 have hs:=G7 l (by omega) hr;have hI:=GI (az l);refine bg 18 1 [.tmp 2,.tmp 3] mixed Tryz.func44 ?_;cases h2:pg (az l)
 ·have hR:=RS h2;have hz:wd 0=[.int .i64 0,.int .u64 0]:=rfl;rw [h2] at hs;simp only [fY,if_false,hz] at hs;have e1:zC (az l)=0:=by simp [zC,hR]
  have e2:zF (az l)=1:=by simp [zF,hR]
  rw [e1,e2];simp only [go_sem,seval];refine aa.gen [] [] true (by simp) ?_;simp only [go_sem,seval];refine aY.intro hs ?_;simp only [go_sem,seval]
 ·rw [h2] at hs;simp only [if_true] at hs;simp only [wd] at hs hI;simp only [go_sem,seval];refine aa.gen [] [] true (by simp) ?_;simp only [go_sem,seval];refine aY.intro hs ?_;simp only [go_sem,seval];refine aa.pure hI ?_;simp only [go_sem,seval,zC,zF]
theorem G3 {n:Int} (h:eW n):pg n=true:=sP (B:=9223372036854775808) ⟨h.1,by have:=h.2;omega⟩ (by omega)
theorem Eb (s:af) (n:Int) (hr:s.cE) (hl:s.book.qs.length < 2 ^ 30):Abs.Spec Tryz.prog 25 [] [.agg s.cells,.int .i64 n] [] (.bI [.int .i64 (zC (az (bR n s.book.qs))),.int .i64 (zF (az (bR n s.book.qs)))]):=by
 have hq:=nE n s.book.qs;have hS:=pO (bR n s.book.qs) (by omega) (fun q hq=>G3 (EP hr.qs q hq));simp only [af.cells];refine bg 33 2 [.tmp 4,.tmp 5] mixed Tryz.func25 ?_;simp only [go_sem,seval,aG];refine aC.walk (S:=Unit) s.book.qs.length [1,11,12] [48,208] (fun i _=>[(13,.int .i64 i),(6,.ref 448)]) (fun i _=>[(448,.own 2 (kD (bR n (s.book.qs.take i))))]) (fun _ _=>True) () trivial ?_ ?_ ?_
 ·simp only [go_sem,seval]<;>simp [bR,kD]
 ·intro i _ hi hdi hwi _;have hm:=aD (c:=aA.cells) s.book.qs hi;have hs:=vG n s.book.qs hi;have hlen:=nE n (s.book.qs.take i);have hlt:(s.book.qs.take i).length=i:=by simp;omega
  have hO:=oH s.book.qs[i].aV (hr.qs _ (List.getElem_mem hi)).2.2.1;simp only [aA.cells] at hm;simp only [wd] at hO;simp only [go_sem,seval,hdi,hm];(with_reducible and_intros)<;>first|exact .dq|omega|skip
  cases hb:s.book.qs[i].inst==n
  ·simp only [hb,fY,if_false] at hs;simp only [go_sem,seval,hwi];refine ah.step () hi trivial ?_;simp only [go_sem,seval,hs]
  ·simp only [hb,if_true] at hs;simp only [go_sem,seval];refine aa.pure hO ?_;have hwl:(kD (bR n (s.book.qs.take i))).length<=i:=by simp [kD];omega
   simp only [go_sem,seval,hwi];(with_reducible and_intros)<;>first|exact .dq|omega|skip
   refine ah.step () hi trivial ?_;simp only [go_sem,seval,hs]<;>simp [kD,wd]
 ·intro _ hdx _;simp only [go_sem,seval,hdx,List.take_length];refine aa.gen [] [] true (by simp) ?_;simp only [go_sem,seval];refine aY.intro hS ?_;simp only [go_sem,seval]
theorem LJ (ks:List Int) (k:Int) (hl:ks.length < 2 ^ 62):Abs.Spec Tryz.prog 107 [] [.sl 1 (ints ks),.int .i64 k] [] (.int .i64 (fT id k ks)):=by
 refine bg 19 2 [.tmp 4] mixed Tryz.func107 ?_;simp only [go_sem,seval,ay];refine aC.walk (S:=Unit) ks.length [0,1,7] [] (fun i _=>[(8,.int .i64 i)]) (fun i _=>[]) (fun i _=>∀ j (hj:j < ks.length),j < i->id ks[j]≠k) () (by intros;omega) ?_ ?_ ?_
 ·simp only [go_sem,seval]<;>simp
 ·intro i _ hi hdi hw hI;have hli:(i:Int) < (ks.length:Int):=by omega
  simp only [go_sem,seval,hdi,ay,ints_at ks hi];(with_reducible and_intros)<;>first|exact .dq|omega|skip
  cases hb:k==ks[i]
  ·have hb2:id ks[i]≠k:=fun h=>by simp only [id] at h;rw [h] at hb;simp at hb
   simp only [go_sem,seval,hw];refine ah.step () hi ?_ ?_
   ·intro j hj hji;rcases Nat.lt_or_ge j i with h | h
    ·exact hI j hj h
    ·obtain rfl:j=i:=by omega
     exact hb2
   ·simp only [go_sem,seval]
  ·have hb2:id ks[i]=k:=by simp only [id];have:=K9 hb;omega
   obtain ⟨g1,g2⟩:=gW (z:=(0:Int)) hi hI hb2;rw [g2];simp only [go_sem,seval]
 ·intro _ hdx hI;obtain ⟨g1,g2⟩:=fR (z:=(0:Int)) (fun j hj=>hI j hj hj);rw [g2];simp only [go_sem,seval,hdx]
theorem nw {A:Type} {no:A->Int} {n:Int}:∀ {xs:List A},decide (0<=fT no n xs)=xs.any (fun x=>no x==n)
 | []=>by simp [fT]
 | x :: r=>by
  have ih:=nw (no:=no) (n:=n) (xs:=r);rw [Bool.eq_iff_iff,decide_eq_true_iff] at ih |-;rw [List.any_cons,Bool.or_eq_true,<- ih,beq_iff_eq];simp only [fT];split
  ·simp [*]
  ·rename_i h1;split
   ·exact ⟨fun h=>by omega,fun h=>by rcases h with h | h;exact (h1 h).elim;omega⟩
   ·exact ⟨fun _=>.inr (by omega),fun h=>by omega⟩
theorem DG (ks:List Int) (k:Int) (hl:ks.length < 2 ^ 62):Abs.Spec Tryz.prog 45 [] [.sl 1 (ints ks),.int .i64 k] [] (.bool (pY ks k)):=by
 have h:=LJ ks k hl;have e:decide (0<=fT id k ks)=pY ks k:=by rw [nw];rfl
 refine bg 9 2 [.tmp 4] mixed Tryz.func45 ?_;simp only [go_sem,seval];refine aa.pure h ?_;simp only [go_sem,seval,e]
def J6 (ks:List Int) (k:Int):Bool:=decide (ks.length=0)||pY ks k
def nP (c:Int) (ks:List Int) (bs:List bp):List Int:=(bs.filter fun b=>b.cur==c&&J6 ks b.kind).map bp.sum
theorem N2 (c:Int) (ks:List Int) (bs:List bp) {i:Nat} (h:i < bs.length):nP c ks (bs.take (i+1))=if bs[i].cur==c&&J6 ks bs[i].kind then nP c ks (bs.take i)++[bs[i].sum] else nP c ks (bs.take i):=by
 simp only [nP];rw [List.take_succ_eq_append_getElem h,List.filter_append,List.map_append];cases hb:(bs[i].cur==c&&J6 ks bs[i].kind)<;>simp [List.filter,hb]
theorem Ig (c:Int) (ks:List Int) (bs:List bp):(nP c ks bs).length<=bs.length:=by
 simp only [nP,aG];exact List.length_filter_le _ _
theorem Rc {c:Int} {ks:List Int} {bs:List bp} (h:∀ b∈bs,b.cE):∀ n∈nP c ks bs,eW n:=by
 intro n hn;simp only [nP,List.mem_map,List.mem_filter] at hn;obtain ⟨b,⟨hb,_⟩,rfl⟩:=hn;exact (h b hb).2.2.2
theorem zQ (s:af) (c:Int) (ks:List Int) (hr:s.cE) (hl:s.aU.bs.length < 2 ^ 30) (hk:ks.length < 2 ^ 30):Abs.Spec Tryz.prog 26 [] [.agg s.cells,.int .i64 c,.sl 1 (ints ks)] [] (.bI [.int .i64 (zC (az (nP c ks s.aU.bs))),.int .i64 (zF (az (nP c ks s.aU.bs)))]):=by
 have hq:=Ig c ks s.aU.bs;have hS:=pO (nP c ks s.aU.bs) (by omega) (fun q hq=>G3 (Rc hr.bs q hq));simp only [af.cells];refine bg 47 3 [.tmp 6,.tmp 7] mixed Tryz.func26 ?_;simp only [go_sem,seval,aG];refine aC.walk (S:=Unit) s.aU.bs.length [1,2,13,14] [64,240] (fun i _=>[(15,.int .i64 i),(8,.ref 672)]) (fun i _=>[(672,.own 2 (kD (nP c ks (s.aU.bs.take i))))]) (fun _ _=>True) () trivial ?_ ?_ ?_
 ·simp only [go_sem,seval]<;>simp [nP,kD]
 ·intro i _ hi hdi hwi _;have hm:=aD (c:=bp.cells) s.aU.bs hi;have hs:=N2 c ks s.aU.bs hi;have hlen:=Ig c ks (s.aU.bs.take i);have hlt:(s.aU.bs.take i).length=i:=by simp;omega
  obtain ⟨z,hz⟩:=aL (s.aU.bs[i]);have hO:=oH z.sum (by rw [hz];exact (hr.bs _ (List.getElem_mem hi)).2.2.2);have hC:=DG ks z.kind (by omega);have hwl:(kD (nP c ks (s.aU.bs.take i))).length<=i:=by simp [kD];omega
  rw [<- hz] at hm hs;simp only [bp.cells] at hm;simp only [wd] at hO;simp only [go_sem,seval,hdi,hm];(with_reducible and_intros)<;>first|exact .dq|omega|skip
  cases b1:z.cur==c
  ·simp only [b1,Bool.false_and,fY,if_false] at hs;simp only [go_sem,seval,hwi];refine ah.step () hi trivial ?_;simp only [go_sem,seval,hs]
  cases b2:decide (ks.length=0)
  case true =>
   have b2':((ks.length:Int)==0)=true:=by rw [beq_iff_eq];have:=of_decide_eq_true b2;omega
   simp only [b1,J6,b2,Bool.true_or,Bool.and_self,if_true] at hs;simp only [go_sem,seval,ay,b2'];refine aa.pure hO ?_;simp only [go_sem,seval,hwi];(with_reducible and_intros)<;>first|exact .dq|omega|skip
   refine ah.step () hi trivial ?_;simp only [go_sem,seval,hs]<;>simp [kD,wd]
  have b2':((ks.length:Int)==0)=false:=by rw [beq_eq_false_iff_ne];have:=of_decide_eq_false b2;omega
  simp only [go_sem,seval,ay,b2'];refine aa.pure hC ?_;cases b3:pY ks z.kind
  ·simp only [b1,J6,b2,b3,Bool.or_self,Bool.and_false,fY,if_false] at hs;simp only [go_sem,seval,hwi];refine ah.step () hi trivial ?_;simp only [go_sem,seval,hs]
  ·simp only [b1,J6,b2,b3,Bool.false_or,Bool.and_self,if_true] at hs;simp only [go_sem,seval];refine aa.pure hO ?_;simp only [go_sem,seval,hwi];(with_reducible and_intros)<;>first|exact .dq|omega|skip
   refine ah.step () hi trivial ?_;simp only [go_sem,seval,hs]<;>simp [kD,wd]
 ·intro _ hdx _;simp only [go_sem,seval,hdx,List.take_length];refine aa.gen [] [] true (by simp) ?_;simp only [go_sem,seval];refine aY.intro hS ?_;simp only [go_sem,seval]
def isVar (c:Int) (b:bp):Bool:=b.kind==5&&(b.who==0&&b.cur==c)
def oz (c:Int) (bs:List bp):List Int:=(bs.filter (isVar c)).map bp.sum
theorem Oy (c:Int) (bs:List bp) {i:Nat} (h:i < bs.length):oz c (bs.take (i+1))=if isVar c bs[i] then oz c (bs.take i)++[bs[i].sum] else oz c (bs.take i):=by
 simp only [oz];rw [List.take_succ_eq_append_getElem h,List.filter_append,List.map_append];cases hb:isVar c bs[i]<;>simp [List.filter,hb]
theorem JK (c:Int) (bs:List bp):(oz c bs).length<=bs.length:=by
 simp only [oz,aG];exact List.length_filter_le _ _
theorem QF {c:Int} {bs:List bp} (h:∀ b∈bs,b.cE):∀ n∈oz c bs,eW n:=by
 intro n hn;simp only [oz,List.mem_map,List.mem_filter] at hn;obtain ⟨b,⟨hb,_⟩,rfl⟩:=hn;exact (h b hb).2.2.2
def oF (x:aq) (qs:List aA):List Int:=(qs.filter fun p=>p.inst==x.no).map fun p=>x.mult*p.cost
theorem KN (x:aq) (qs:List aA) {i:Nat} (h:i < qs.length):oF x (qs.take (i+1))=if qs[i].inst==x.no then oF x (qs.take i)++[x.mult*qs[i].cost] else oF x (qs.take i):=by
 simp only [oF];rw [List.take_succ_eq_append_getElem h,List.filter_append,List.map_append];cases hb:(qs[i].inst==x.no)<;>simp [List.filter,hb]
theorem yh (x:aq) (qs:List aA):(oF x qs).length<=qs.length:=by
 simp only [oF,aG];exact List.length_filter_le _ _
def rO (l:List aq) (n:Int):Bool:=l.any fun x=>x.no==n
def vK (c:Int) (qs:List aA):List aq->List aq->List Int
 | _,[]=>[]
 | seen,x :: r=>(if x.cur==c&&!rO seen x.no then oF x qs else [])++vK c qs (seen++[x]) r
def WU (r:au) (c:Int) (p:aA):Int:=if bf r p.inst&&(aT r p.inst).cur==c then (aT r p.inst).mult*p.cost else 0
def BL (r:au) (c:Int) (qs:List aA):List Int:=(qs.filter fun p=>bf r p.inst&&(aT r p.inst).cur==c).map fun p=>(aT r p.inst).mult*p.cost
theorem vH {A:Type} (h:A->Bool) (v:A->Int):∀ l:List A,az ((l.filter h).map v)=az (l.map fun a=>if h a then v a else 0)
 | []=>rfl
 | a :: l=>by
  have ih:=vH h v l;cases hb:h a<;>simp only [List.filter,hb,List.map_cons,az,ih,if_true,fY,if_false]<;>omega
theorem sum_add {A:Type} (f g k:A->Int) (h:∀ a,k a=f a+g a):∀ l:List A,az (l.map k)=az (l.map f)+az (l.map g)
 | []=>rfl
 | a :: l=>by
  have ih:=sum_add f g k h l;simp only [List.map_cons,az,ih,h a];omega
theorem Dd {A:Type} (f:A->Int) (h:∀ a,f a=0):∀ l:List A,az (l.map f)=0
 | []=>rfl
 | a :: l=>by simp only [List.map_cons,az,Dd f h l,h a];omega
def QW (c:Int) (seen ns:List aq) (p:aA):Int:=
 if rO seen p.inst then 0 else if decide (0<=fT aq.no p.inst ns)&&(eP aq.no p.inst aq.zero ns).cur==c then (eP aq.no p.inst aq.zero ns).mult*p.cost else 0
theorem cY:∀ l m:List Int,az (l++m)=az l+az m
 | [],m=>by simp [az]
 | x :: l,m=>by simp only [List.cons_append,az,cY l m];omega
theorem HU (c:Int) (qs:List aA):∀ (ns seen:List aq),az (vK c qs seen ns)=az (qs.map (QW c seen ns))
 | [],seen=>by
  rw [Dd]
  ·rfl
  ·intro p;simp [QW,fT]
 | x :: r,seen=>by
  have ih:=HU c qs r (seen++[x]);simp only [vK];rw [cY,ih]
  have hA:az (if (x.cur==c&&!rO seen x.no)=true then oF x qs else [])=az (qs.map fun p=>if x.cur==c&&!rO seen x.no&&p.inst==x.no then x.mult*p.cost else 0):=by
   cases hb:(x.cur==c&&!rO seen x.no)
   ·rw [Dd]
    ·rfl
    ·intro p;simp
   ·simp only [if_true,oF,Bool.true_and];rw [vH]
  rw [hA,<- sum_add (k:=QW c seen (x :: r))];intro p;have hs:rO (seen++[x]) p.inst=(rO seen p.inst||x.no==p.inst):=by simp [rO]
  by_cases he:x.no=p.inst
  ·have e1:(x.no==p.inst)=true:=by simpa using he
   have e2:(p.inst==x.no)=true:=by simp [he]
   have e3:fT aq.no p.inst (x :: r)=0:=by simp [fT,he]
   have e4:eP aq.no p.inst aq.zero (x :: r)=x:=by simp [eP,he]
   simp only [QW,hs,e1,e2,e3,e4,Bool.or_true,if_true,he];cases rO seen p.inst<;>cases (x.cur==c)<;>simp
  ·have e1:(x.no==p.inst)=false:=by simpa using he
   have e2:(p.inst==x.no)=false:=by simp;omega
   have e4:eP aq.no p.inst aq.zero (x :: r)=eP aq.no p.inst aq.zero r:=by simp [eP,he]
   have e3:decide (0<=fT aq.no p.inst (x :: r))=decide (0<=fT aq.no p.inst r):=by
    rw [nw,nw,List.any_cons,e1,Bool.false_or]
   simp only [QW,hs,e1,e2,e3,e4,Bool.or_false,Bool.and_false,fY,if_false,Int.zero_add]
theorem U6 (r:au) (c:Int) (qs:List aA):az (vK c qs [] r.ns)=az (BL r c qs):=by
 rw [HU,BL,vH];congr 1
theorem Sa {a b:Int} (ha:eW a) (hb:eW b):pg (a*b)=true:=by
 have h:=eT (a:=a) (b:=b) (A:=9223372036854775808) (B:=9223372036854775808) ⟨ha.1,by have:=ha.2;omega⟩ ⟨hb.1,by have:=hb.2;omega⟩;exact sP h (by omega)
theorem Kp {c:Int} {qs:List aA} (hq:∀ p∈qs,p.cE):∀ (ns seen:List aq),(∀ x∈ns,x.cE)->∀ n∈vK c qs seen ns,pg n=true
 | [],_,_,n,hn=>by cases hn
 | x :: r,seen,h,n,hn=>by
  simp only [vK,List.mem_append] at hn;rcases hn with hn | hn
  ·split at hn
   ·simp only [oF,List.mem_map,List.mem_filter] at hn;obtain ⟨p,⟨hp,_⟩,rfl⟩:=hn;exact Sa (h x (by simp)).2.2.1 (hq p hp).2.2.2
   ·cases hn
  ·exact Kp hq r _ (fun y hy=>h y (by simp [hy])) n hn
theorem Ki {c:Int} {qs:List aA}:∀ (ns seen:List aq),(vK c qs seen ns).length<=ns.length*qs.length
 | [],_=>by simp [vK]
 | x :: r,seen=>by
  have ih:=Ki (c:=c) (qs:=qs) r (seen++[x]);simp only [vK,List.length_append,List.length_cons,Nat.succ_mul];have:=yh x qs;split<;>simp<;>omega
def ak.zero:ak:=⟨0,0,0⟩
theorem zH (xs:List ak) (n:Int) (hl:xs.length < 2 ^ 62):Abs.Spec Tryz.prog 160 [] [.sl 3 (xs.map ak.cells),.fn 74 [],.int .i64 n] [] (.bI [.agg (eP ak.no n ak.zero xs).cells,.int .i64 (fT ak.no n xs)]):=by
 refine bg 27 3 [.cell 6 79,.tmp 7] mixed Tryz.func160 ?_;simp only [go_sem,seval,aG];refine aC.walk (S:=Unit) xs.length [1,2,6,11,12] [112,208] (fun i _=>[(13,.int .i64 i)]) (fun i _=>[]) (fun i _=>∀ j (hj:j < xs.length),j < i->xs[j].no≠n) () (by intros;omega) ?_ ?_ ?_
 ·simp only [go_sem,seval]<;>simp
 ·intro i _ hi hdi hw hI;have hm:=aD (c:=ak.cells) xs hi;have hno:=pL xs[i];simp only [ak.cells] at hm hno |-;simp only [go_sem,seval,hdi,hm];(with_reducible and_intros)<;>first|exact .dq|omega|skip
  refine aa.pure hno ?_;cases hb:xs[i].no==n
  ·have hb2:xs[i].no≠n:=by simpa using hb
   simp only [go_sem,seval,hb,hw];refine ah.step () hi ?_ ?_
   ·intro j hj hji;rcases Nat.lt_or_ge j i with h | h
    ·exact hI j hj h
    ·obtain rfl:j=i:=by omega
     exact hb2
   ·simp only [go_sem,seval]
  ·have hb2:xs[i].no=n:=by simpa using hb
   obtain ⟨g1,g2⟩:=gW (z:=ak.zero) hi hI hb2;rw [g1,g2];simp only [go_sem,seval,hb]
 ·intro _ hdx hI;obtain ⟨g1,g2⟩:=fR (z:=ak.zero) (fun j hj=>hI j hj hj);rw [g1,g2];simp only [go_sem,seval,hdx,ak.cells,ak.zero]
def fc (r:au) (n:Int):ak:=eP ak.no n ak.zero r.ms
def eJ (r:au) (n:Int):Bool:=decide (0<=fT ak.no n r.ms)
def bC (r:au) (n:Int):Int:=(fc r n).state
theorem Ai (r:au) (n:Int) (hl:r.small):Abs.Spec Tryz.prog 98 [] [.agg r.cells,.int .i64 n] [] (.bI [.agg (fc r n).cells,.bool (eJ r n)]):=by
 have h:=zH r.ms n (by have:=hl.1;omega);obtain ⟨g,hg⟩:=aL (eP ak.no n ak.zero r.ms);simp only [fc,eJ];rw [<- hg] at h |-;simp only [ak.cells] at h |-;simp only [au.cells];refine bg 18 2 [.cell 4 79,.tmp 5] mixed Tryz.func98 ?_;simp only [go_sem,seval];refine aa.pure h ?_;simp only [go_sem,seval]
theorem tB (s:af) (n:Int) (hl:s.aj.small):Abs.Spec Tryz.prog 97 [] [.int .i64 n,.bF s.cells] [] (.int .i64 (bC s.aj n)):=by
 have h:=Ai s.aj n hl;simp only [bC];obtain ⟨g,hg⟩:=aL (fc s.aj n);rw [<- hg] at h |-;simp only [au.cells,ak.cells] at h;simp only [af.cells];refine bg 15 2 [.tmp 3] mixed Tryz.func97 ?_;simp only [go_sem,seval];(with_reducible and_intros)<;>first|exact .dq|omega|skip
 refine aa.pure h ?_;simp only [go_sem,seval]
theorem Kj (s:af) (n:Int) (hl:s.aj.small):Abs.Spec Tryz.prog 99 [] [.int .i64 n,.bF s.cells] [] (.bool (bf s.aj n)):=by
 have h:=DD s.aj n hl;obtain ⟨g,hg⟩:=aL (aT s.aj n);rw [<- hg] at h;simp only [au.cells,aq.cells] at h;simp only [af.cells];refine bg 14 2 [.tmp 3] mixed Tryz.func99 ?_;simp only [go_sem,seval];(with_reducible and_intros)<;>first|exact .dq|omega|skip
 refine aa.pure h ?_;simp only [go_sem,seval]
def uL (r:au) (n:Int):Bool:=bC r n==1||bC r n==2
theorem IY (s:af) (n:Int) (hl:s.aj.small):Abs.Spec Tryz.prog 101 [] [.int .i64 n,.bF [.fn 97 [.bF s.cells]]] [] (.bool (uL s.aj n)):=by
 have h:=tB s n hl;simp only [af.cells] at h |-;refine bg 14 2 [.tmp 3] mixed Tryz.func101 ?_;simp only [go_sem,seval];(with_reducible and_intros)<;>first|exact .dq|omega|skip
 refine aa.pure h ?_;cases b1:bC s.aj n==1
 ·simp only [go_sem,seval,b1];(with_reducible and_intros)<;>first|exact .dq|omega|skip
  refine aa.pure h ?_;simp only [go_sem,seval,uL,b1,Bool.false_or]
 ·simp only [go_sem,seval,uL,b1,Bool.true_or]
theorem HV (s:af) (c:aB) (hl:s.aj.small):Abs.Spec Tryz.prog 104 [] [.agg c.cells,.bF [.fn 97 [.bF s.cells]]] [] (.bool (!(bC s.aj c.who==1))):=by
 have h:=tB s c.who hl;simp only [af.cells] at h |-;simp only [aB.cells];refine bg 10 2 [.tmp 3] mixed Tryz.func104 ?_;simp only [go_sem,seval];(with_reducible and_intros)<;>first|exact .dq|omega|skip
 refine aa.pure h ?_;simp only [go_sem,seval,bne]
theorem CJ (s:af) (cs:List aB) (hl:s.aj.small) (hc:cs.length < 2 ^ 60):Abs.Spec Tryz.prog 163 [] [.sl 4 (cs.map aB.cells),.fn 104 [.bF [.fn 97 [.bF s.cells]]]] [] (.int .i64 (fT (fun c:aB=>if bC s.aj c.who==1 then 0 else 1) 1 cs)):=by
 have h:=fun c=>HV s c hl
 simp only [af.cells,aB.cells] at h |-;refine bg 19 2 [.tmp 4] mixed Tryz.func163 ?_;simp only [go_sem,seval,aG];refine aC.walk (S:=Unit) cs.length [0,1,7] [] (fun i _=>[(8,.int .i64 i)]) (fun i _=>[]) (fun i _=>∀ j (hj:j < cs.length),j < i->(if bC s.aj cs[j].who==1 then (0:Int) else 1)≠1) () (by intros;omega) ?_ ?_ ?_
 ·simp only [go_sem,seval]<;>simp
 ·intro i _ hi hdi hw hI;have hm:=aD (c:=aB.cells) cs hi;have hli:(i:Int) < (cs.length:Int):=by omega
  have hc:=h cs[i];simp only [aB.cells] at hm;simp only [go_sem,seval,hdi,aG,hm];(with_reducible and_intros)<;>first|exact .dq|omega|skip
  refine aa.pure hc ?_;cases hb:bC s.aj cs[i].who==1
  ·obtain ⟨g1,g2⟩:=gW (no:=fun c:aB=>if bC s.aj c.who==1 then (0:Int) else 1) (n:=1) (z:=(⟨0,0,0,0⟩:aB)) hi hI (by simp [hb]);rw [g2];simp only [go_sem,seval,hb]
  ·simp only [go_sem,seval,hb,hw];refine ah.step () hi ?_ ?_
   ·intro j hj hji;rcases Nat.lt_or_ge j i with h | h
    ·exact hI j hj h
    ·obtain rfl:j=i:=by omega
     simp [hb]
   ·simp only [go_sem,seval]
 ·intro _ hdx hI;obtain ⟨g1,g2⟩:=fR (no:=fun c:aB=>if bC s.aj c.who==1 then (0:Int) else 1) (n:=1) (z:=(⟨0,0,0,0⟩:aB)) (fun j hj=>hI j hj hj);rw [g2];simp only [go_sem,seval,hdx]
def oJ (r:au) (c:aB):Bool:=bC r c.who==1
theorem wU (s:af) (cs:List aB) (hl:s.aj.small) (hc:cs.length < 2 ^ 60):Abs.Spec Tryz.prog 103 [] [.sl 4 (cs.map aB.cells),.fn 104 [.bF [.fn 97 [.bF s.cells]]]] [] (.bool (!cs.all (oJ s.aj))):=by
 have h:=CJ s cs hl hc
 have e:decide (0<=fT (fun c:aB=>if bC s.aj c.who==1 then (0:Int) else 1) 1 cs) = !cs.all (oJ s.aj):=by
  rw [nw,List.not_all_eq_any_not];congr 1
  funext c
  cases hb:bC s.aj c.who==1<;>simp [oJ,hb]
 simp only [af.cells] at h |-;refine bg 9 2 [.tmp 4] mixed Tryz.func103 ?_;simp only [go_sem,seval];refine aa.pure h ?_;simp only [go_sem,seval,e]
def Ce (r:au) (p:aA):Bool:=uL r p.who&&bf r p.inst
def uo (r:au) (t:aI):Bool:=!(bC r t.fW==0)&&(!(bC r t.dV==0)&&bf r t.inst)
def jm (r:au) (n:Int):Bool:=decide (0<=fT av.a n r.xs)
def sQ (r:au) (p:eO):Bool:=uL r p.who&&jm r p.bG
def lE (s:af):Bool:=s.book.qs.all (Ce s.aj)&&(s.book.ts.all (uo s.aj)&&(s.ps.all (sQ s.aj)&&s.calls.all (oJ s.aj)))
theorem qS {A:Type} {f:A->Bool} {xs:List A} {i:Nat} (h:i < xs.length) (hn:f xs[i]=false):xs.all f=false:=by
 cases hc:xs.all f
 ·rfl
 ·rw [List.all_eq_true.1 hc _ (List.getElem_mem h)] at hn;cases hn
theorem nq {A:Type} {f:A->Bool} {xs:List A} (h:∀ j (hj:j < xs.length),j < xs.length->f xs[j]=true):xs.all f=true:=List.all_eq_true.2 fun x hx=>by
 obtain ⟨j,hj,rfl⟩:=List.mem_iff_getElem.1 hx;exact h j hj hj
theorem kB {A:Type} {f:A->Bool} {xs:List A} {i:Nat} (hi:i < xs.length) (hI:∀ j (hj:j < xs.length),j < i->f xs[j]=true) (h0:f xs[i]=true):∀ j (hj:j < xs.length),j < i+1->f xs[j]=true:=fun j hj hji=>by
 rcases Nat.lt_or_ge j i with h | h
 ·exact hI j hj h
 ·obtain rfl:j=i:=by omega
  exact h0
theorem Lt (s:af) (hs:s.fit) (hc:s.calls.length < 2 ^ 30):Abs.Spec Tryz.prog 41 [] [.agg s.cells] [] (.bool (lE s)):=by
 obtain ⟨hl,hb,_,hp⟩:=hs;obtain ⟨hb1,hb2⟩:=hb;have k2:=fun n=>Kj s n hl
 have k1:=fun n=>tB s n hl
 have k3:=fun n=>IY s n hl
 have kA:=fun n=>CO s.aj n hl
 have kC:=wU s s.calls hl (by omega);simp only [au.cells] at kA;simp only [af.cells] at k1 k2 k3 kC |-;refine bg 98 1 [.tmp 2] mixed Tryz.func41 ?_;simp only [go_sem,seval,aG];refine aC.walk (S:=Unit) s.book.qs.length [1,3,4,5,19,20] [32,64,256,272,336] (fun i _=>[(21,.int .i64 i)]) (fun i _=>[]) (fun i _=>∀ j (hj:j < s.book.qs.length),j < i->Ce s.aj s.book.qs[j]=true) () (by intros;omega) ?_ ?_ ?_
 ·simp only [go_sem,seval]<;>simp
 ·intro i _ hi hdi hw hI;have hm:=aD (c:=aA.cells) s.book.qs hi;have e0:=kB hi hI;have e1:Ce s.aj s.book.qs[i]=false->lE s=false:=fun h=>by simp [lE,qS hi h]
  simp only [aA.cells] at hm;simp only [go_sem,seval,hdi,hm];(with_reducible and_intros)<;>first|exact .dq|omega|skip
  refine aa.gen [] [] true (by simp) ?_;simp only [go_sem,seval];refine aY.intro (k3 s.book.qs[i].who) ?_;cases b1:uL s.aj s.book.qs[i].who
  ·have:=e1 (by simp [Ce,b1]);simp only [go_sem,seval,b1,this]
  simp only [go_sem,seval,b1];refine aa.gen [] [] true (by simp) ?_;simp only [go_sem,seval];refine aY.intro (k2 s.book.qs[i].inst) ?_;cases b2:bf s.aj s.book.qs[i].inst
  ·have:=e1 (by simp [Ce,b1,b2]);simp only [go_sem,seval,b2,this]
  simp only [go_sem,seval,b2,hw];refine ah.step () hi (e0 (by simp [Ce,b1,b2])) ?_;simp only [go_sem,seval]
 intro _ hdx hI;have hA:=nq hI;have eA:lE s=(s.book.ts.all (uo s.aj)&&(s.ps.all (sQ s.aj)&&s.calls.all (oJ s.aj))):=by simp [lE,hA]
 rw [eA];clear eA hA hI;simp only [go_sem,seval,hdx,aG];clear hdx;refine aC.walk (S:=Unit) s.book.ts.length [1,3,4,5,42,43] [32,64,256,272,704] (fun i _=>[(44,.int .i64 i)]) (fun i _=>[]) (fun i _=>∀ j (hj:j < s.book.ts.length),j < i->uo s.aj s.book.ts[j]=true) () (by intros;omega) ?_ ?_ ?_
 ·simp only [go_sem,seval]<;>simp
 ·intro i _ hi hdi hw hI;have hm:=aD (c:=aI.cells) s.book.ts hi;have e0:=kB hi hI;have e1:uo s.aj s.book.ts[i]=false->(s.book.ts.all (uo s.aj)&&(s.ps.all (sQ s.aj)&&s.calls.all (oJ s.aj)))=false:=fun h=>by simp [qS hi h]
  simp only [aI.cells] at hm;simp only [go_sem,seval,hdi,hm];(with_reducible and_intros)<;>first|exact .dq|omega|skip
  refine aa.gen [] [] true (by simp) ?_;simp only [go_sem,seval];refine aY.intro (k1 s.book.ts[i].fW) ?_;cases b1:bC s.aj s.book.ts[i].fW==0
  case true =>
   have:=e1 (by simp only [uo,b1];rfl);simp only [go_sem,seval,b1,this]
  simp only [go_sem,seval,b1];refine aa.gen [] [] true (by simp) ?_;simp only [go_sem,seval];refine aY.intro (k1 s.book.ts[i].dV) ?_;cases b2:bC s.aj s.book.ts[i].dV==0
  case true =>
   have:=e1 (by simp only [uo,b1,b2];rfl);simp only [go_sem,seval,b2,this]
  simp only [go_sem,seval,b2];refine aa.gen [] [] true (by simp) ?_;simp only [go_sem,seval];refine aY.intro (k2 s.book.ts[i].inst) ?_;cases b3:bf s.aj s.book.ts[i].inst
  ·have:=e1 (by simp only [uo,b1,b2,b3];rfl);simp only [go_sem,seval,b3,this]
  simp only [go_sem,seval,b3,hw];refine ah.step () hi (e0 (by simp only [uo,b1,b2,b3];rfl)) ?_;simp only [go_sem,seval]
 intro _ hdx hI;have hA:=nq hI;rw [hA,Bool.true_and];clear hA hI;have hpl:(pl s.ps).length=s.ps.length:=nY s.ps;simp only [go_sem,seval,hdx];clear hdx;refine aC.walk (S:=Unit) s.ps.length [1,3,5,69,70] [32,64,272,1136] (fun i _=>[(71,.int .i64 i)]) (fun i _=>[]) (fun i _=>∀ j (hj:j < s.ps.length),j < i->sQ s.aj s.ps[j]=true) () (by intros;omega) ?_ ?_ ?_
 ·simp only [go_sem,seval]<;>simp
 ·intro i _ hi hdi hw hI;have hm:=mT s.ps hi;have e0:=kB hi hI;have e1:sQ s.aj s.ps[i]=false->(s.ps.all (sQ s.aj)&&s.calls.all (oJ s.aj))=false:=fun h=>by simp [qS hi h]
  have hA:=kA s.ps[i].bG;obtain ⟨g,hg⟩:=aL (eP av.a s.ps[i].bG ⟨0,0,0,0⟩ s.aj.xs);have hAe:decide (0<=fT av.a s.ps[i].bG s.aj.xs)=jm s.aj s.ps[i].bG:=rfl;rw [<- hg,hAe] at hA;simp only [av.cells] at hA;simp only [go_sem,seval,hdi,hm];(with_reducible and_intros)<;>first|exact .dq|omega|skip
  refine aa.pure hA ?_;simp only [go_sem,seval];refine aa.gen [] [] true (by simp) ?_;simp only [go_sem,seval];refine aY.intro (k3 s.ps[i].who) ?_;cases b1:uL s.aj s.ps[i].who
  ·have:=e1 (by simp only [sQ,b1];rfl);simp only [go_sem,seval,b1,this]
  cases b2:jm s.aj s.ps[i].bG
  ·have:=e1 (by simp only [sQ,b1,b2];rfl);simp only [go_sem,seval,b1,b2,this]
  simp only [go_sem,seval,b1,b2,hw];refine ah.step () hi (e0 (by simp only [sQ,b1,b2];rfl)) ?_;simp only [go_sem,seval]
 intro _ hdx hI;have hA:=nq hI;rw [hA,Bool.true_and];clear hA hI;simp only [go_sem,seval,hdx];refine aa.gen [32,64] [] true (by simp) ?_;simp only [go_sem,seval];refine aY.intro kC ?_;simp only [go_sem,seval,Bool.not_not]
def Js (x y:Int):Int:=if x < y then -1 else if y < x then 1 else 0
theorem C9 (x:Int):Abs.Spec Tryz.prog 207 [] [.int .i64 x] [] (.bool false):=by
 refine bg 6 1 [.tmp 2] mixed Tryz.func207 ?_;simp only [go_sem,seval,bne,beq_self_eq_true,Bool.not_true]
theorem rU (x y:Int):Abs.Spec Tryz.prog 159 [] [.int .i64 x,.int .i64 y] [] (.int .i64 (Js x y)):=by
 have h1:=C9 x;have h2:=C9 y;refine bg 20 2 [.tmp 4] mixed Tryz.func159 ?_;simp only [go_sem,seval];refine aa.pure h1 ?_;simp only [go_sem,seval];refine aa.pure h2 ?_;simp only [Js];rcases Int.lt_or_le x y with h | h
 ·have d:decide (x < y)=true:=decide_eq_true h;simp only [go_sem,seval,d,if_pos h]
 ·have d:decide (x < y)=false:=decide_eq_false (by omega);rw [if_neg (by omega)];rcases Int.lt_or_le y x with h3 | h3
  ·have d2:decide (y < x)=true:=decide_eq_true h3;simp only [go_sem,seval,d,d2,if_pos h3]
  ·have d2:decide (y < x)=false:=decide_eq_false (by omega);simp only [go_sem,seval,d,d2,if_neg (show ¬ y < x by omega)]
def RH:List Int->Int
 | []=>0
 | x :: xs=>if x=0 then RH xs else x
theorem Is (xs:List Int) (hn:xs.length < 2 ^ 60):Abs.Spec Tryz.prog 158 [] [.sl 1 (ints xs)] [] (.int .i64 (RH xs)):=by
 refine bg 18 1 [.tmp 2] mixed Tryz.func158 ?_;simp only [go_sem,seval,ay];refine aC.walk (S:=Unit) xs.length [3,6,7] [128] (fun i _=>[(8,.int .i64 i)]) (fun i _=>[]) (fun i _=>RH (xs.drop i)=RH xs) () (by simp) ?_ ?_ ?_
 ·simp only [go_sem,seval]<;>simp
 ·intro i _ hi hdi hw hI;have hat:=ints_at xs hi;obtain ⟨x,hx⟩:=aL (xs[i]);have hd:RH (xs.drop i)=if x=0 then RH (xs.drop (i+1)) else x:=by rw [dy hi,RH,hx]
  rw [hd] at hI;rw [<- hx] at hat;simp only [go_sem,seval,ay,hdi,hat];(with_reducible and_intros)<;>first|exact .dq|omega|skip
  cases hb:x==0
  ·have h0:x≠0:=by simpa using hb
   rw [if_neg h0] at hI;rw [hI] at hb;simp only [go_sem,seval,bne,hb,hI]
  ·have h0:x=0:=by simpa using hb
   rw [if_pos h0] at hI;simp only [go_sem,seval,bne,hb,hw];refine ah.step () hi hI ?_;simp only [go_sem,seval]
 ·intro _ hdx hI;rw [List.drop_length,RH] at hI;simp only [go_sem,seval,ay,hdx,<- hI]
theorem Ll (x y:Int):Abs.Spec Tryz.prog 158 [] [.sl 1 [[.int .i64 x],[.int .i64 y]]] [] (.int .i64 (if x=0 then y else x)):=by
 have h:=Is [x,y] (by simp)
 have e:RH [x,y]=if x=0 then y else x:=by
  simp only [RH];split<;>try rfl
  split<;>rename_i h<;>simp_all
 rw [e] at h;exact h
def bM (a b:aB):Bool:=decide (a.who < b.who)||(a.who==b.who&&decide (a.cur < b.cur))
def BY (a:aB) (w c:Int):Int:=if Js a.who w=0 then Js a.cur c else Js a.who w
theorem Ip (a b:aB):decide (0<=BY a b.who b.cur) = !bM a b:=by
 rw [Bool.eq_iff_iff,decide_eq_true_iff];simp only [BY,Js,bM,Bool.not_eq_true',Bool.or_eq_false_iff,decide_eq_false_iff_not,Bool.and_eq_false_iff,beq_eq_false_iff_ne]
 repeat' split
 all_goals omega
theorem xQ (a:aB) (w c:Int):Abs.Spec Tryz.prog 96 [] [.agg a.cells,.int .i64 w,.int .i64 c] [] (.int .i64 (BY a w c)):=by
 have h1:=rU a.who w;have h2:=rU a.cur c;have h3:=Ll (Js a.who w) (Js a.cur c);simp only [aB.cells];refine bg 19 3 [.tmp 6] mixed Tryz.func96 ?_;simp only [go_sem,seval];(with_reducible and_intros)<;>first|exact .dq|omega|skip
 refine aa.pure h1 ?_;simp only [go_sem,seval];(with_reducible and_intros)<;>first|exact .dq|omega|skip
 refine aa.pure h2 ?_;simp only [go_sem,seval];(with_reducible and_intros)<;>first|exact .dq|omega|skip
 refine aa.gen [] [] true (by simp) ?_;simp only [go_sem,seval];refine aY.intro h3 ?_;simp only [go_sem,seval,BY]
def bS (c:aB):Bool:=(within c.who 1 16&&within c.cur 0 2)&&(within c.bW 1 4611686018427387904&&within c.till 0 1099511627776)
theorem Bf (w c:Int):Abs.Spec Tryz.prog 95 [] [.int .i64 w,.int .i64 c] [] (.bool (within w 1 16&&within c 0 2)):=by
 refine bg 19 2 [.tmp 4] mixed Tryz.func95 ?_;simp only [go_sem,seval]
 repeat' with_reducible first|apply And.intro|exact .dq|refine aa.pure (by assumption) ?_|refine .aM (fun h=>?_) fun h=>?_|refine .aK (fun h=>?_) fun h=>?_|refine .aO (fun h=>?_) fun h=>?_|refine .split (fun h=>?_) fun h=>?_|refine .id ?_|refine ah.next (by omega) ?_ ?_|exact trivial|simp only [*,go_sem,seval]
 all_goals (simp_all [within];try omega)
theorem xg (a b:aN):Abs.Spec Tryz.prog 192 [] [.agg a.cells,.agg b.cells] [] (.bool (decide (a.who < b.who)||(a.who==b.who&&decide (a.cur < b.cur)))):=by
 simp only [aN.cells];refine bg 24 2 [.tmp 4] mixed Tryz.func192 ?_;simp only [go_sem,seval]
 repeat' with_reducible first|apply And.intro|exact .dq|refine aa.pure (by assumption) ?_|refine .aM (fun h=>?_) fun h=>?_|refine .aK (fun h=>?_) fun h=>?_|refine .aO (fun h=>?_) fun h=>?_|refine .split (fun h=>?_) fun h=>?_|refine .id ?_|refine ah.next (by omega) ?_ ?_|exact trivial|simp only [*,go_sem,seval]
 all_goals (simp_all)
theorem Bz (cs:List aB) (hl:cs.length < 2 ^ 30):Abs.Spec Tryz.prog 40 [] [.sl 4 (cs.map aB.cells)] [] (.int .i64 (if lZ bS bM cs then 0 else 14)):=by
 refine bg 64 1 [.tmp 2] mixed Tryz.func40 ?_;simp only [go_sem,seval,aG];refine aC.count cs.length [0,5,6] [112] (fun i=>[(7,.int .i64 i)]) (fun i=>[]) (fun i=>∀ j < i,kG bS bM cs j=true) (by simp) ?_ ?_
 ·simp only [go_sem,seval]<;>simp
 intro i hi hI;simp only [go_sem,seval,aG];refine bJ.aK (fun h=>?_) (fun h=>?_)
 ·have hi':i < cs.length:=by omega
  have hw:IntKind.wrap .i64 ((i:Int)+1)=((i+1:Nat):Int):=by rw [bz (by omega) (by omega)];omega
  have hm:=aD (c:=aB.cells) cs hi';have e0:=nj (i:=i) hI;have e1:kG bS bM cs i=false->lZ bS bM cs=false:=rq hi';have h1:=Bf cs[i].who cs[i].cur;have h2:Abs.Spec Tryz.prog 83 [] [.sl 1 [[.int .i64 cs[i].bW]]] [] (.bool (right [cs[i].bW])):=jM [cs[i].bW] (by simp);rw [nA] at h2;have hamt:(bP cs[i].bW&&!decide (cs[i].bW < 1))=within cs[i].bW 1 4611686018427387904:=by rw [Bool.eq_iff_iff];simp [bP,within];omega
  have htl:(!decide (cs[i].till < 0)&&!decide (1099511627776 < cs[i].till))=within cs[i].till 0 1099511627776:=by rw [Bool.eq_iff_iff];simp [within]
  simp only [aB.cells] at hm;rcases Nat.eq_zero_or_pos i with rfl | hpos
  ·have hk:=gz (ok:=bS) (lt:=bM) hi';simp only [bS,<- hamt,<- htl] at hk;simp only [go_sem,seval,hm,aG]
   repeat' with_reducible first|apply And.intro|exact .dq|refine aa.pure (by assumption) ?_|refine aa.pure (h1) ?_|(refine aa.gen [] [] true (by simp) ?_;simp only [go_sem,seval];refine aY.intro h2 ?_)|refine .aM (fun h=>?_) fun h=>?_|refine .aK (fun h=>?_) fun h=>?_|refine .aO (fun h=>?_) fun h=>?_|refine .split (fun h=>?_) fun h=>?_|refine .id ?_|refine ah.next (by omega) ?_ ?_|exact trivial|simp only [*,go_sem,seval]
   all_goals first
    | omega
    | rfl
    | (refine e0 ?_;clear e0 e1;rw [hk];clear hk;simp_all;done)
    | (refine e0 ?_;clear e0 e1;rw [hk];clear hk;simp_all;omega)
    | (rw [e1 ?_];clear e0 e1;rw [hk];clear hk;simp_all;done)
    | (rw [e1 ?_];clear e0 e1;rw [hk];clear hk;simp_all;omega)
    | (rw [e1 ?_]
       ·rfl
       ·clear e0 e1;rw [hk];clear hk;simp_all;done)
    | (rw [e1 ?_]
       ·rfl
       ·clear e0 e1;rw [hk];clear hk;simp_all;omega)
  ·obtain ⟨j,rfl⟩:∃ j,i=j+1:=⟨i-1,by omega⟩
   have hj:j < cs.length:=by omega
   have hw1:IntKind.wrap .i64 (((j+1:Nat):Int)-1)=(j:Int):=by rw [bz (by omega) (by omega)];omega
   have hk:=fQ (ok:=bS) (lt:=bM) hi';simp only [bS,<- hamt,<- htl] at hk;have hmj:=aD (c:=aB.cells) cs hj;have h9:=xQ cs[j] cs[j+1].who cs[j+1].cur;have hlt:=Ip cs[j] cs[j+1];rw [hlt.symm.trans (by rfl:decide (0<=BY cs[j] cs[j+1].who cs[j+1].cur)=decide (0<=BY cs[j] cs[j+1].who cs[j+1].cur))] at hlt;simp only [aB.cells] at h9;have hk2:bM cs[j] cs[j+1] = !decide (0<=BY cs[j] cs[j+1].who cs[j+1].cur):=by rw [Ip,Bool.not_not]
   rw [hk2] at hk;clear hlt hk2;simp only [aB.cells] at hmj;simp only [go_sem,seval,hm,aG]
   repeat' with_reducible first|apply And.intro|exact .dq|refine aa.pure (by assumption) ?_|refine aa.pure (h1) ?_|(refine aa.gen [] [] true (by simp) ?_;simp only [go_sem,seval];refine aY.intro h2 ?_)|refine aa.pure (h9) ?_|refine .aM (fun h=>?_) fun h=>?_|refine .aK (fun h=>?_) fun h=>?_|refine .aO (fun h=>?_) fun h=>?_|refine .split (fun h=>?_) fun h=>?_|refine .id ?_|refine ah.next (by omega) ?_ ?_|exact trivial|simp only [*,go_sem,seval,hmj,aG]
   all_goals first
    | omega
    | rfl
    | (refine e0 ?_;clear e0 e1;rw [hk];clear hk;simp_all;done)
    | (refine e0 ?_;clear e0 e1;rw [hk];clear hk;simp_all;omega)
    | (rw [e1 ?_];clear e0 e1;rw [hk];clear hk;simp_all;done)
    | (rw [e1 ?_];clear e0 e1;rw [hk];clear hk;simp_all;omega)
    | (rw [e1 ?_]
       ·rfl
       ·clear e0 e1;rw [hk];clear hk;simp_all;done)
    | (rw [e1 ?_]
       ·rfl
       ·clear e0 e1;rw [hk];clear hk;simp_all;omega)
 have hCH:=lY (fun j (hj:j < cs.length)=>hI j (by omega));clear hI;simp only [go_sem,seval,hCH]
theorem pT (cs:List aB) (hl:cs.length < 2 ^ 30):Abs.Spec Tryz.prog 164 [] [.sl 4 (cs.map aB.cells)] [] (.bool (lZ bS bM cs)):=by
 refine bg 56 1 [.tmp 2] mixed Tryz.func164 ?_;simp only [go_sem,seval,aG];refine aC.count cs.length [0] [] (fun i=>[(3,.int .i64 i)]) (fun i=>[]) (fun i=>∀ j < i,kG bS bM cs j=true) (by simp) ?_ ?_
 ·simp only [go_sem,seval]<;>simp
 intro i hi hI;simp only [go_sem,seval,aG];refine bJ.aK (fun h=>?_) (fun h=>?_)
 ·have hi':i < cs.length:=by omega
  have hw:IntKind.wrap .i64 ((i:Int)+1)=((i+1:Nat):Int):=by rw [bz (by omega) (by omega)];omega
  have hm:=aD (c:=aB.cells) cs hi';have e0:=nj (i:=i) hI;have e1:kG bS bM cs i=false->lZ bS bM cs=false:=rq hi';have h1:=fE cs[i].who;have h2:=fB cs[i].cur;have h3:=eM cs[i].bW 1 4611686018427387904;have h4:=eM cs[i].till 0 1099511627776;simp only [aB.cells] at hm;rcases Nat.eq_zero_or_pos i with rfl | hpos
  ·have hk:=gz (ok:=bS) (lt:=bM) hi';simp only [bS] at hk;simp only [go_sem,seval,hm,aG]
   repeat' with_reducible first|apply And.intro|exact .dq|refine aa.pure (by assumption) ?_|refine aa.pure (h1) ?_|refine aa.pure (h2) ?_|refine aa.pure (h3) ?_|refine aa.pure (h4) ?_|refine .aM (fun h=>?_) fun h=>?_|refine .aK (fun h=>?_) fun h=>?_|refine .aO (fun h=>?_) fun h=>?_|refine .split (fun h=>?_) fun h=>?_|refine .id ?_|refine ah.next (by omega) ?_ ?_|exact trivial|simp only [*,go_sem,seval]
   all_goals first
    | omega
    | rfl
    | (refine e0 ?_;clear e0 e1;rw [hk];clear hk;simp_all;done)
    | (refine e0 ?_;clear e0 e1;rw [hk];clear hk;simp_all;omega)
    | (rw [e1 ?_];clear e0 e1;rw [hk];clear hk;simp_all;done)
    | (rw [e1 ?_];clear e0 e1;rw [hk];clear hk;simp_all;omega)
    | (rw [e1 ?_]
       ·rfl
       ·clear e0 e1;rw [hk];clear hk;simp_all;done)
    | (rw [e1 ?_]
       ·rfl
       ·clear e0 e1;rw [hk];clear hk;simp_all;omega)
  ·obtain ⟨j,rfl⟩:∃ j,i=j+1:=⟨i-1,by omega⟩
   have hj:j < cs.length:=by omega
   have hw1:IntKind.wrap .i64 (((j+1:Nat):Int)-1)=(j:Int):=by rw [bz (by omega) (by omega)];omega
   have hk:=fQ (ok:=bS) (lt:=bM) hi';simp only [bS] at hk;have hmj:=aD (c:=aB.cells) cs hj;have h9:=xg ⟨cs[j].who,cs[j].cur,cs[j].bW⟩ ⟨cs[j+1].who,cs[j+1].cur,cs[j+1].bW⟩;simp only [aN.cells] at h9;simp only [bM] at hk;obtain ⟨lt,hlt⟩:=aL ((decide (cs[j].who < cs[j+1].who)||(cs[j].who==cs[j+1].who&&decide (cs[j].cur < cs[j+1].cur))));rw [<- hlt] at hk h9;clear hlt;simp only [aB.cells] at hmj;simp only [go_sem,seval,hm,aG]
   repeat' with_reducible first|apply And.intro|exact .dq|refine aa.pure (by assumption) ?_|refine aa.pure (h1) ?_|refine aa.pure (h2) ?_|refine aa.pure (h3) ?_|refine aa.pure (h4) ?_|refine aa.pure (h9) ?_|refine .aM (fun h=>?_) fun h=>?_|refine .aK (fun h=>?_) fun h=>?_|refine .aO (fun h=>?_) fun h=>?_|refine .split (fun h=>?_) fun h=>?_|refine .id ?_|refine ah.next (by omega) ?_ ?_|exact trivial|simp only [*,go_sem,seval,hmj,aG]
   all_goals first
    | omega
    | rfl
    | (refine e0 ?_;clear e0 e1;rw [hk];clear hk;simp_all;done)
    | (refine e0 ?_;clear e0 e1;rw [hk];clear hk;simp_all;omega)
    | (rw [e1 ?_];clear e0 e1;rw [hk];clear hk;simp_all;done)
    | (rw [e1 ?_];clear e0 e1;rw [hk];clear hk;simp_all;omega)
    | (rw [e1 ?_]
       ·rfl
       ·clear e0 e1;rw [hk];clear hk;simp_all;done)
    | (rw [e1 ?_]
       ·rfl
       ·clear e0 e1;rw [hk];clear hk;simp_all;omega)
 have hCH:=lY (fun j (hj:j < cs.length)=>hI j (by omega));clear hI;simp only [go_sem,seval,hCH]
def o8 (s:af):Bool:=within s.now 0 1099511627776&&(within s.day 0 1099511627776&&within s.phase 0 2)
theorem zW (a b c:Int):Abs.Spec Tryz.prog 35 [] [.agg [.int .i64 a,.int .i64 b,.int .i64 c]] [] (.bool (within a 0 1099511627776&&(within b 0 1099511627776&&within c 0 2))):=by
 refine bg 31 1 [.tmp 2] mixed Tryz.func35 ?_;simp only [go_sem,seval]
 repeat' with_reducible first|apply And.intro|exact .dq|refine aa.pure (by assumption) ?_|refine .aM (fun h=>?_) fun h=>?_|refine .aK (fun h=>?_) fun h=>?_|refine .aO (fun h=>?_) fun h=>?_|refine .split (fun h=>?_) fun h=>?_|refine .id ?_|refine ah.next (by omega) ?_ ?_|exact trivial|simp only [*,go_sem,seval]
 all_goals (simp_all [within];try omega)
def kf (b:bu):Bool:=oA b.who b.inst&&(within b.src 1 16&&(within b.aV 1 1048576&&within b.aR 1 1073741824))
theorem DX (b:bu):Abs.Spec Tryz.prog 42 [] [.agg b.cells] [] (.bool (kf b)):=by
 simp only [bu.cells];refine bg 55 1 [.tmp 2] mixed Tryz.func42 ?_;simp only [go_sem,seval]
 repeat' with_reducible first|apply And.intro|exact .dq|refine aa.pure (by assumption) ?_|refine .aM (fun h=>?_) fun h=>?_|refine .aK (fun h=>?_) fun h=>?_|refine .aO (fun h=>?_) fun h=>?_|refine .split (fun h=>?_) fun h=>?_|refine .id ?_|refine ah.next (by omega) ?_ ?_|exact trivial|simp only [*,go_sem,seval]
 all_goals (simp_all [kf,oA,within];try omega)
def eY (x:bE):Bool:=within x.client 1 8&&within x.seq 1 1099511627776
def dH (a b:bE):Bool:=decide (a.client < b.client)
def br (s:af):Bool:=o8 s&&(s.aj.okB&&(s.book.okB&&(s.aU.okB&&(gf s.ps&&(lZ bS bM s.calls&&(lE s&&(!decide (32 < (s.aX.length:Int))&&(s.aX.all kf&&lZ eY dH s.aJ))))))))
theorem zM (s:af) (hs:s.small):Abs.Spec Tryz.prog 24 [] [.agg s.cells] [] (.int .i64 (if br s then 0 else 14)):=by
 have hfit:s.fit:=⟨hs.aj.small,hs.book,hs.aU,hs.ps⟩
 have c1:=zW s.now s.day s.phase;have c2:=Df s.aj hs.aj.small;have c3:=Dp s.book hs.book;have c4:=DJ s.aU hs.aU;have c5:=Ow s.ps (by have:=hs.ps;omega);have c6:=Bz s.calls hs.calls;have c7:=Lt s hfit hs.calls;have hbl:=hs.aX;have hsl:=hs.aJ;clear hfit;simp only [au.cells,aF.cells,bq.cells] at c2 c3 c4;simp only [af.cells] at c7 |-;refine bg 106 1 [.tmp 2] mixed Tryz.func24 ?_;simp only [go_sem,seval];refine aa.pure c1 ?_;cases b1:o8 s
 ·have e:br s=false:=by simp [br,b1]
  simp only [o8] at b1;simp only [go_sem,seval,b1,e]<;>simp
 have b1':=b1;simp only [o8] at b1';simp only [go_sem,seval,b1'];refine aa.pure c2 ?_;cases b2:s.aj.okB
 ·have e:br s=false:=by simp [br,b2]
  simp only [go_sem,seval,e]<;>simp
 simp only [go_sem,seval];refine aa.pure c3 ?_;cases b3:s.book.okB
 ·have e:br s=false:=by simp [br,b3]
  simp only [go_sem,seval,e]<;>simp
 simp only [go_sem,seval];refine aa.pure c4 ?_;cases b4:s.aU.okB
 ·have e:br s=false:=by simp [br,b4]
  simp only [go_sem,seval,e]<;>simp
 simp only [go_sem,seval];refine aa.pure c5 ?_;cases b5:gf s.ps
 ·have e:br s=false:=by simp [br,b5]
  simp only [go_sem,seval,e]<;>simp
 simp only [go_sem,seval];refine aa.pure c6 ?_;cases b6:lZ bS bM s.calls
 ·have e:br s=false:=by simp [br,b6]
  simp only [go_sem,seval,e]<;>simp
 simp only [go_sem,seval];refine aa.pure c7 ?_;cases b7:lE s
 ·have e:br s=false:=by simp [br,b7]
  simp only [go_sem,seval,e]<;>simp
 cases b8:decide (32 < (s.aX.length:Int))
 case true =>
  have e:br s=false:=by simp [br,b8]
  simp only [go_sem,seval,aG,b8,e]<;>simp
 have e:br s=(s.aX.all kf&&lZ eY dH s.aJ):=by simp only [br,b1,b2,b3,b4,b5,b6,b7,b8,Bool.true_and,Bool.not_false]
 rw [e];clear e c1 c2 c3 c4 c5 c6 c7 b1 b1' b2 b3 b4 b5 b6 b7;simp only [go_sem,seval,aG,b8];refine aC.walk (S:=Unit) s.aX.length [1,53,54] [32,880] (fun i _=>[(55,.int .i64 i)]) (fun i _=>[]) (fun i _=>∀ j (hj:j < s.aX.length),j < i->kf s.aX[j]=true) () (by intros;omega) ?_ ?_ ?_
 ·simp only [go_sem,seval]<;>simp
 ·intro i _ hi hdi hw hI;have hm:=aD (c:=bu.cells) s.aX hi;have hb:=DX s.aX[i];have e0:=kB hi hI;have e1:kf s.aX[i]=false->(s.aX.all kf&&lZ eY dH s.aJ)=false:=fun h=>by simp [qS hi h]
  simp only [bu.cells] at hm hb;simp only [go_sem,seval,hdi,hm];(with_reducible and_intros)<;>first|exact .dq|omega|skip
  refine aa.pure hb ?_;cases b1:kf s.aX[i]
  ·have:=e1 b1;simp only [go_sem,seval,this]<;>simp
  simp only [go_sem,seval,hw];refine ah.step () hi (e0 b1) ?_;simp only [go_sem,seval]
 intro _ hdx hI;have hA:=nq hI;rw [hA,Bool.true_and];clear hI hA;simp only [go_sem,seval,hdx,aG];clear hdx b8;refine aC.count s.aJ.length [1,64,65] [32,1056] (fun i=>[(66,.int .i64 i)]) (fun i=>[]) (fun i=>∀ j < i,kG eY dH s.aJ j=true) (by simp) ?_ ?_
 ·simp only [go_sem,seval]<;>simp
 intro i hi hI;simp only [go_sem,seval,aG];refine bJ.aK (fun h=>?_) (fun h=>?_)
 ·have hi':i < s.aJ.length:=by omega
  have hw:IntKind.wrap .i64 ((i:Int)+1)=((i+1:Nat):Int):=by rw [bz (by omega) (by omega)];omega
  have hm:=aD (c:=bE.cells) s.aJ hi';have e0:=nj (i:=i) hI;have e1:kG eY dH s.aJ i=false->lZ eY dH s.aJ=false:=rq hi'

  simp only [bE.cells] at hm;rcases Nat.eq_zero_or_pos i with rfl | hpos
  ·have hk:=gz (ok:=eY) (lt:=dH) hi';simp only [eY,dH,within] at hk;simp only [go_sem,seval,hm,aG]
   repeat' with_reducible first|apply And.intro|exact .dq|refine aa.pure (by assumption) ?_|refine .aM (fun h=>?_) fun h=>?_|refine .aK (fun h=>?_) fun h=>?_|refine .aO (fun h=>?_) fun h=>?_|refine .split (fun h=>?_) fun h=>?_|refine .id ?_|refine ah.next (by omega) ?_ ?_|exact trivial|simp only [*,go_sem,seval]
   all_goals first
    | omega
    | rfl
    | (refine e0 ?_;clear e0 e1;rw [hk];clear hk;simp_all;done)
    | (refine e0 ?_;clear e0 e1;rw [hk];clear hk;simp_all;omega)
    | (rw [e1 ?_];clear e0 e1;rw [hk];clear hk;simp_all;done)
    | (rw [e1 ?_];clear e0 e1;rw [hk];clear hk;simp_all;omega)
    | (rw [e1 ?_]
       ·rfl
       ·clear e0 e1;rw [hk];clear hk;simp_all;done)
    | (rw [e1 ?_]
       ·rfl
       ·clear e0 e1;rw [hk];clear hk;simp_all;omega)
  ·obtain ⟨j,rfl⟩:∃ j,i=j+1:=⟨i-1,by omega⟩
   have hj:j < s.aJ.length:=by omega
   have hw1:IntKind.wrap .i64 (((j+1:Nat):Int)-1)=(j:Int):=by rw [bz (by omega) (by omega)];omega
   have hk:=fQ (ok:=eY) (lt:=dH) hi';simp only [eY,dH,within] at hk;have hmj:=aD (c:=bE.cells) s.aJ hj

   simp only [bE.cells] at hmj;simp only [go_sem,seval,hm,aG]
   repeat' with_reducible first|apply And.intro|exact .dq|refine aa.pure (by assumption) ?_|refine .aM (fun h=>?_) fun h=>?_|refine .aK (fun h=>?_) fun h=>?_|refine .aO (fun h=>?_) fun h=>?_|refine .split (fun h=>?_) fun h=>?_|refine .id ?_|refine ah.next (by omega) ?_ ?_|exact trivial|simp only [*,go_sem,seval,hmj,aG]
   all_goals first
    | omega
    | rfl
    | (refine e0 ?_;clear e0 e1;rw [hk];clear hk;simp_all;done)
    | (refine e0 ?_;clear e0 e1;rw [hk];clear hk;simp_all;omega)
    | (rw [e1 ?_];clear e0 e1;rw [hk];clear hk;simp_all;done)
    | (rw [e1 ?_];clear e0 e1;rw [hk];clear hk;simp_all;omega)
    | (rw [e1 ?_]
       ·rfl
       ·clear e0 e1;rw [hk];clear hk;simp_all;done)
    | (rw [e1 ?_]
       ·rfl
       ·clear e0 e1;rw [hk];clear hk;simp_all;omega)
 have hCH:=lY (fun j (hj:j < s.aJ.length)=>hI j (by omega));clear hI;simp only [go_sem,seval,hCH]
theorem fy (a b c:Int):Abs.Spec Tryz.prog 142 [] [.int .i64 a,.int .i64 b,.int .i64 c] [] (.bool (within a b c)):=by
 refine bg 15 3 [.tmp 6] mixed Tryz.func142 ?_;simp only [go_sem,seval]
 repeat' with_reducible first|apply And.intro|exact .dq|refine aa.pure (by assumption) ?_|refine .aM (fun h=>?_) fun h=>?_|refine .aK (fun h=>?_) fun h=>?_|refine .aO (fun h=>?_) fun h=>?_|refine .split (fun h=>?_) fun h=>?_|refine .id ?_|refine ah.next (by omega) ?_ ?_|exact trivial|simp only [*,go_sem,seval]
 all_goals (simp only [within];simp<;>omega)
theorem cj (r:au) (n:Int) (hl:r.small):Abs.Spec Tryz.prog 115 [] [.agg r.cells,.int .i64 n] [] (.bI [.agg (fc r n).cells,.bool (eJ r n)]):=by
 obtain ⟨l1,l2,l3⟩:=hl;simp only [au.cells];refine bg 28 2 [.cell 4 79,.tmp 5] mixed Tryz.func115 ?_;simp only [go_sem,seval,aG];refine aC.walk (S:=Unit) r.ms.length [1,2,4] [48,80] (fun i _=>[(6,.int .i64 i)]) (fun i _=>[]) (fun i _=>∀ j (hj:j < r.ms.length),j < i->r.ms[j].no≠n) () (by intros;omega) ?_ ?_ ?_
 ·simp only [go_sem,seval]<;>simp
 ·intro i _ hi hdi hw hI;have hm:=aD (c:=ak.cells) r.ms hi;have hlt:(i:Int) < (r.ms.length:Int):=by omega
  simp only [ak.cells] at hm |-;simp only [go_sem,seval,aG,hdi,hm];(with_reducible and_intros)<;>first|exact .dq|omega|skip
  cases hb:r.ms[i].no==n
  ·have hb2:r.ms[i].no≠n:=by simpa using hb
   simp only [go_sem,seval,hw];refine ah.step () hi ?_ ?_
   ·intro j hj hji;rcases Nat.lt_or_ge j i with h | h
    ·exact hI j hj h
    ·obtain rfl:j=i:=by omega
     exact hb2
   ·simp only [go_sem,seval]
  ·have hb2:r.ms[i].no=n:=by simpa using hb
   obtain ⟨g1,g2⟩:=gW (z:=ak.zero) hi hI hb2;have e1:fc r n=r.ms[i]:=g1;have e2:eJ r n=true:=by simp [eJ,g2]
   rw [e1,e2];simp only [go_sem,seval,hm,aG];(with_reducible and_intros)<;>first|exact .dq|omega|skip
 ·intro _ hdx hI;obtain ⟨g1,g2⟩:=fR (z:=ak.zero) (fun j hj=>hI j hj hj);have e1:fc r n=ak.zero:=g1;have e2:eJ r n=false:=by simp [eJ,g2]
  rw [e1,e2];simp only [go_sem,seval,aG,hdx,ak.cells,ak.zero]
theorem l9 (s:af) (n:Int) (hl:s.aj.small):Abs.Spec Tryz.prog 184 [] [.agg s.cells,.int .i64 n] [] (.int .i64 (bC s.aj n)):=by
 have h:=cj s.aj n hl;simp only [bC];obtain ⟨g,hg⟩:=aL (fc s.aj n);rw [<- hg] at h |-;simp only [au.cells,ak.cells] at h;simp only [af.cells];refine bg 16 2 [.tmp 4] mixed Tryz.func184 ?_;simp only [go_sem,seval];refine aa.pure h ?_;simp only [go_sem,seval]
theorem Ct (s:af) (n:Int) (hl:s.aj.small):Abs.Spec Tryz.prog 185 [] [.agg s.cells,.int .i64 n] [] (.bool (bf s.aj n)):=by
 have h:=dc s.aj n hl;obtain ⟨g,hg⟩:=aL (aT s.aj n);rw [<- hg] at h;simp only [au.cells,aq.cells] at h;simp only [af.cells];refine bg 15 2 [.tmp 4] mixed Tryz.func185 ?_;simp only [go_sem,seval];refine aa.pure h ?_;simp only [go_sem,seval]
theorem GV (s:af) (hl:s.aX.length < 2 ^ 30):Abs.Spec Tryz.prog 186 [] [.agg s.cells] [] (.bool (!decide (32 < (s.aX.length:Int))&&s.aX.all kf)):=by
 simp only [af.cells];refine bg 43 1 [.tmp 2] mixed Tryz.func186 ?_;simp only [go_sem,seval,aG];refine aC.walk (S:=Unit) s.aX.length [1] [32] (fun i _=>[(3,.int .i64 i)]) (fun i _=>[]) (fun i _=>∀ j (hj:j < s.aX.length),j < i->kf s.aX[j]=true) () (by intros;omega) ?_ ?_ ?_
 ·simp only [go_sem,seval]<;>simp
 ·intro i _ hi hdi hw hI;have hm:=aD (c:=bu.cells) s.aX hi;have h1:=oI s.aX[i].who s.aX[i].inst;have h2:=fE s.aX[i].src;have h3:=fy s.aX[i].aV 1 1048576;have h4:=fy s.aX[i].aR 1 1073741824;have hli:(i:Int) < (s.aX.length:Int):=by omega
  have e0:=kB hi hI;have e1:kf s.aX[i]=false->(!decide (32 < (s.aX.length:Int))&&s.aX.all kf)=false:=fun h=>by simp [qS hi h]
  simp only [kf] at e0 e1;simp only [bu.cells] at hm;simp only [go_sem,seval,hdi,aG,hm];(with_reducible and_intros)<;>first|exact .dq|omega|skip
  refine aa.pure h1 ?_;cases b1:oA s.aX[i].who s.aX[i].inst
  ·have:=e1 (by simp [b1]);simp only [go_sem,seval,this]
  simp only [go_sem,seval];refine aa.pure h2 ?_;cases b2:within s.aX[i].src 1 16
  ·have:=e1 (by simp [b2]);simp only [go_sem,seval,this]
  simp only [go_sem,seval];refine aa.pure h3 ?_;cases b3:within s.aX[i].aV 1 1048576
  ·have:=e1 (by simp [b3]);simp only [go_sem,seval,this]
  simp only [go_sem,seval];refine aa.pure h4 ?_;cases b4:within s.aX[i].aR 1 1073741824
  ·have:=e1 (by simp [b4]);simp only [go_sem,seval,this]
  simp only [go_sem,seval,hw];refine ah.step () hi (e0 (by simp [b1,b2,b3,b4])) ?_;simp only [go_sem,seval]
 ·intro _ hdx hI;have hA:=nq hI;have e:decide ((s.aX.length:Int)<=32) = !decide (32 < (s.aX.length:Int)):=by rw [Bool.eq_iff_iff];simp
  simp only [go_sem,seval,hdx,aG,hA,Bool.and_true,e]
theorem Ej (s:af) (hl:s.aJ.length < 2 ^ 30):Abs.Spec Tryz.prog 187 [] [.agg s.cells] [] (.bool (lZ eY dH s.aJ)):=by
 simp only [af.cells];refine bg 43 1 [.tmp 2] mixed Tryz.func187 ?_;simp only [go_sem,seval,aG];refine aC.count s.aJ.length [1] [32] (fun i=>[(3,.int .i64 i)]) (fun i=>[]) (fun i=>∀ j < i,kG eY dH s.aJ j=true) (by simp) ?_ ?_
 ·simp only [go_sem,seval]<;>simp
 intro i hi hI;simp only [go_sem,seval,aG];refine bJ.aK (fun h=>?_) (fun h=>?_)
 ·have hi':i < s.aJ.length:=by omega
  have hw:IntKind.wrap .i64 ((i:Int)+1)=((i+1:Nat):Int):=by rw [bz (by omega) (by omega)];omega
  have hm:=aD (c:=bE.cells) s.aJ hi';have e0:=nj (i:=i) hI;have e1:kG eY dH s.aJ i=false->lZ eY dH s.aJ=false:=rq hi';have h1:=fy s.aJ[i].client 1 8;have h2:=fy s.aJ[i].seq 1 1099511627776;simp only [bE.cells] at hm;rcases Nat.eq_zero_or_pos i with rfl | hpos
  ·have hk:=gz (ok:=eY) (lt:=dH) hi';simp only [eY,dH] at hk;simp only [go_sem,seval,hm,aG]
   repeat' with_reducible first|apply And.intro|exact .dq|refine aa.pure (by assumption) ?_|refine aa.pure (h1) ?_|refine aa.pure (h2) ?_|refine .aM (fun h=>?_) fun h=>?_|refine .aK (fun h=>?_) fun h=>?_|refine .aO (fun h=>?_) fun h=>?_|refine .split (fun h=>?_) fun h=>?_|refine .id ?_|refine ah.next (by omega) ?_ ?_|exact trivial|simp only [*,go_sem,seval]
   all_goals first
    | omega
    | rfl
    | (refine e0 ?_;clear e0 e1;rw [hk];clear hk;simp_all;done)
    | (refine e0 ?_;clear e0 e1;rw [hk];clear hk;simp_all;omega)
    | (rw [e1 ?_];clear e0 e1;rw [hk];clear hk;simp_all;done)
    | (rw [e1 ?_];clear e0 e1;rw [hk];clear hk;simp_all;omega)
    | (rw [e1 ?_]
       ·rfl
       ·clear e0 e1;rw [hk];clear hk;simp_all;done)
    | (rw [e1 ?_]
       ·rfl
       ·clear e0 e1;rw [hk];clear hk;simp_all;omega)
  ·obtain ⟨j,rfl⟩:∃ j,i=j+1:=⟨i-1,by omega⟩
   have hj:j < s.aJ.length:=by omega
   have hw1:IntKind.wrap .i64 (((j+1:Nat):Int)-1)=(j:Int):=by rw [bz (by omega) (by omega)];omega
   have hk:=fQ (ok:=eY) (lt:=dH) hi';simp only [eY,dH] at hk;have hmj:=aD (c:=bE.cells) s.aJ hj;have hlt:decide (s.aJ[j].client < s.aJ[j+1].client) = !decide (s.aJ[j+1].client<=s.aJ[j].client):=by rw [Bool.eq_iff_iff];simp
   rw [hlt] at hk;clear hlt;simp only [bE.cells] at hmj;simp only [go_sem,seval,hm,aG]
   repeat' with_reducible first|apply And.intro|exact .dq|refine aa.pure (by assumption) ?_|refine aa.pure (h1) ?_|refine aa.pure (h2) ?_|refine .aM (fun h=>?_) fun h=>?_|refine .aK (fun h=>?_) fun h=>?_|refine .aO (fun h=>?_) fun h=>?_|refine .split (fun h=>?_) fun h=>?_|refine .id ?_|refine ah.next (by omega) ?_ ?_|exact trivial|simp only [*,go_sem,seval,hmj,aG]
   all_goals first
    | omega
    | rfl
    | (refine e0 ?_;clear e0 e1;rw [hk];clear hk;simp_all;done)
    | (refine e0 ?_;clear e0 e1;rw [hk];clear hk;simp_all;omega)
    | (rw [e1 ?_];clear e0 e1;rw [hk];clear hk;simp_all;done)
    | (rw [e1 ?_];clear e0 e1;rw [hk];clear hk;simp_all;omega)
    | (rw [e1 ?_]
       ·rfl
       ·clear e0 e1;rw [hk];clear hk;simp_all;done)
    | (rw [e1 ?_]
       ·rfl
       ·clear e0 e1;rw [hk];clear hk;simp_all;omega)
 have hCH:=lY (fun j (hj:j < s.aJ.length)=>hI j (by omega));clear hI;simp only [go_sem,seval,hCH]
theorem Pq {r:au} (h:r.okB=true) (n:Int):0<=bC r n/\bC r n<=3:=by
 simp only [au.okB,bZ] at h;have hm:=qy h.1.1;unfold bC fc;generalize r.ms=ms at hm
 induction ms with
 | nil=>simp [eP,ak.zero]
 | cons x t ih =>
  simp only [eP];split
  ·have:=hm x (by simp);simp only [ak.ok,within,bZ,decide_eq_true_eq] at this;omega
  ·exact ih fun y hy=>hm y (by simp [hy])
theorem SS {r:au} (h:r.okB=true) (n:Int):uL r n=(!(bC r n==0)&&!(bC r n==3)):=by
 have:=Pq h n;rw [Bool.eq_iff_iff];simp only [uL,Bool.or_eq_true,bZ,Bool.not_eq_true',beq_iff_eq,beq_eq_false_iff_ne];omega
theorem gy (s:af) (hs:s.small) (hr:s.cE):Abs.Spec Tryz.prog 134 [] [.agg s.cells] [] (.bool (br s)):=by
 have hro:=hs.aj.small;have a1:=fy s.now 0 1099511627776;have a2:=fy s.day 0 1099511627776;have a3:=fy s.phase 0 2;have c2:=dK s.aj hro;have c3:=gR s.book hs.book hr.qs;have c4:=gX s.aU hs.aU hr.bs;have c5:=mH s.ps (by have:=hs.ps;omega);have c6:=pT s.calls hs.calls;have kS:=fun n=>l9 s n hro
 have kL:=fun n=>Ct s n hro
 have kH:=fun n=>ku s.aj n hro
 have c7:=GV s hs.aX;have c8:=Ej s hs.aJ;obtain ⟨hb1,hb2⟩:=hs.book;have hpl:=hs.ps;have hcl:=hs.calls;have hop:=fun h n=>SS (r:=s.aj) h n
 simp only [au.cells,aF.cells,bq.cells] at c2 c3 c4 kH;simp only [af.cells] at kS kL c7 c8 |-;clear hs hr hro;refine bg 197 1 [.tmp 2] mixed Tryz.func134 ?_;simp only [go_sem,seval];refine aa.pure a1 ?_;cases q1:within s.now 0 1099511627776
 ·have e:br s=false:=by simp [br,o8,q1]
  simp only [go_sem,seval,e]
 simp only [go_sem,seval];refine aa.pure a2 ?_;cases q2:within s.day 0 1099511627776
 ·have e:br s=false:=by simp [br,o8,q2]
  simp only [go_sem,seval,e]
 simp only [go_sem,seval];refine aa.pure a3 ?_;cases q3:within s.phase 0 2
 ·have e:br s=false:=by simp [br,o8,q3]
  simp only [go_sem,seval,e]
 simp only [go_sem,seval];refine aa.pure c2 ?_;cases b2:s.aj.okB
 ·have e:br s=false:=by simp [br,b2]
  simp only [go_sem,seval,e]
 simp only [go_sem,seval];refine aa.pure c3 ?_;cases b3:s.book.okB
 ·have e:br s=false:=by simp [br,b3]
  simp only [go_sem,seval,e]
 simp only [go_sem,seval];refine aa.pure c4 ?_;cases b4:s.aU.okB
 ·have e:br s=false:=by simp [br,b4]
  simp only [go_sem,seval,e]
 simp only [go_sem,seval];refine aa.pure c5 ?_;cases b5:gf s.ps
 ·have e:br s=false:=by simp [br,b5]
  simp only [go_sem,seval,e]
 simp only [go_sem,seval];refine aa.pure c6 ?_;cases b6:lZ bS bM s.calls
 ·have e:br s=false:=by simp [br,b6]
  simp only [go_sem,seval,e]
 have hop:=hop b2;have e:br s=(lE s&&(!decide (32 < (s.aX.length:Int))&&(s.aX.all kf&&lZ eY dH s.aJ))):=by simp only [br,o8,q1,q2,q3,b2,b3,b4,b5,b6,Bool.true_and]
 rw [e];clear e a1 a2 a3 c2 c3 c4 c5 c6 q1 q2 q3 b2 b3 b4 b5 b6;obtain ⟨R,hR⟩:=aL ((!decide (32 < (s.aX.length:Int))&&(s.aX.all kf&&lZ eY dH s.aJ)));rw [<- hR];simp only [go_sem,seval,aG];refine aC.walk (S:=Unit) s.book.qs.length [1] [32] (fun i _=>[(3,.int .i64 i)]) (fun i _=>[]) (fun i _=>∀ j (hj:j < s.book.qs.length),j < i->Ce s.aj s.book.qs[j]=true) () (by intros;omega) ?_ ?_ ?_
 ·simp only [go_sem,seval]<;>simp
 ·intro i _ hi hdi hw hI;have hm:=aD (c:=aA.cells) s.book.qs hi;have hli:(i:Int) < (s.book.qs.length:Int):=by omega
  have e0:=kB hi hI;have e1:Ce s.aj s.book.qs[i]=false->(lE s&&R)=false:=fun h=>by simp [lE,qS hi h]
  simp only [Ce,hop] at e1;simp only [aA.cells] at hm;simp only [go_sem,seval,hdi,aG,hm];(with_reducible and_intros)<;>first|exact .dq|omega|skip
  refine aa.pure (kS s.book.qs[i].who) ?_;cases b1:bC s.aj s.book.qs[i].who==0
  case true =>
   have:=e1 (by simp [b1]);simp only [go_sem,seval,b1,this];(with_reducible and_intros)<;>first|exact .dq|omega|skip
  cases b2:bC s.aj s.book.qs[i].who==3
  case true =>
   have:=e1 (by simp [b2]);simp only [go_sem,seval,b1,b2,this];(with_reducible and_intros)<;>first|exact .dq|omega|skip
  simp only [go_sem,seval,b1,b2,hm,aG];(with_reducible and_intros)<;>first|exact .dq|omega|skip
  refine aa.pure (kL s.book.qs[i].inst) ?_;cases b3:bf s.aj s.book.qs[i].inst
  ·have:=e1 (by simp [b3]);simp only [go_sem,seval,this]
  simp only [go_sem,seval,hw];refine ah.step () hi (e0 (by simp only [Ce,hop,b1,b2,b3];rfl)) ?_;simp only [go_sem,seval]
 intro _ hdx hI;have hA:=nq hI;have eA:(lE s&&R)=((s.book.ts.all (uo s.aj)&&(s.ps.all (sQ s.aj)&&s.calls.all (oJ s.aj)))&&R):=by simp [lE,hA]
 rw [eA];clear eA hA hI;simp only [go_sem,seval,hdx,aG];clear hdx;refine aC.walk (S:=Unit) s.book.ts.length [1] [32] (fun i _=>[(5,.int .i64 i)]) (fun i _=>[]) (fun i _=>∀ j (hj:j < s.book.ts.length),j < i->uo s.aj s.book.ts[j]=true) () (by intros;omega) ?_ ?_ ?_
 ·simp only [go_sem,seval]<;>simp
 ·intro i _ hi hdi hw hI;have hm:=aD (c:=aI.cells) s.book.ts hi;have hli:(i:Int) < (s.book.ts.length:Int):=by omega
  have e0:=kB hi hI;have e1:uo s.aj s.book.ts[i]=false->((s.book.ts.all (uo s.aj)&&(s.ps.all (sQ s.aj)&&s.calls.all (oJ s.aj)))&&R)=false:=fun h=>by simp [qS hi h]
  simp only [uo] at e1;simp only [aI.cells] at hm;simp only [go_sem,seval,hdi,aG,hm];(with_reducible and_intros)<;>first|exact .dq|omega|skip
  refine aa.pure (kS s.book.ts[i].fW) ?_;cases b1:bC s.aj s.book.ts[i].fW==0
  case true =>
   have:=e1 (by simp [b1]);simp only [go_sem,seval,b1];exact this.symm
  simp only [go_sem,seval,b1,hm,aG];(with_reducible and_intros)<;>first|exact .dq|omega|skip
  refine aa.pure (kS s.book.ts[i].dV) ?_;cases b2:bC s.aj s.book.ts[i].dV==0
  case true =>
   simp only [go_sem,seval,b2];exact (e1 (by simp [b2])).symm
  simp only [go_sem,seval,b2,hm,aG];(with_reducible and_intros)<;>first|exact .dq|omega|skip
  refine aa.pure (kL s.book.ts[i].inst) ?_;cases b3:bf s.aj s.book.ts[i].inst
  ·simp only [go_sem,seval];exact (e1 (by simp [b3])).symm
  simp only [go_sem,seval,hw];refine ah.step () hi (e0 (by simp only [uo,b1,b2,b3];rfl)) ?_;simp only [go_sem,seval]
 intro _ hdx hI;have hA:=nq hI;rw [hA,Bool.true_and];clear hA hI;have hpln:(pl s.ps).length=s.ps.length:=nY s.ps;simp only [go_sem,seval,hdx];clear hdx;refine aC.walk (S:=Unit) s.ps.length [1] [32] (fun i _=>[(6,.int .i64 i)]) (fun i _=>[]) (fun i _=>∀ j (hj:j < s.ps.length),j < i->sQ s.aj s.ps[j]=true) () (by intros;omega) ?_ ?_ ?_
 ·simp only [go_sem,seval]<;>simp
 ·intro i _ hi hdi hw hI;have hm:=mT s.ps hi;have hli:(i:Int) < (s.ps.length:Int):=by omega
  have e0:=kB hi hI;have e1:sQ s.aj s.ps[i]=false->((s.ps.all (sQ s.aj)&&s.calls.all (oJ s.aj))&&R)=false:=fun h=>by simp [qS hi h]
  have e2:sQ s.aj s.ps[i]=((!(bC s.aj s.ps[i].who==0)&&!(bC s.aj s.ps[i].who==3))&&jm s.aj s.ps[i].bG):=by simp only [sQ,hop]
  have hA:=kH s.ps[i].bG;obtain ⟨g,hg⟩:=aL (eP av.a s.ps[i].bG ⟨0,0,0,0⟩ s.aj.xs);have hAe:decide (0<=fT av.a s.ps[i].bG s.aj.xs)=jm s.aj s.ps[i].bG:=rfl;rw [<- hg,hAe] at hA;simp only [av.cells] at hA;rw [e2] at e0 e1;clear e2;simp only [go_sem,seval,hdi,hm];(with_reducible and_intros)<;>first|exact .dq|omega|skip
  refine aa.pure (kS s.ps[i].who) ?_;simp only [go_sem,seval,hm];(with_reducible and_intros)<;>first|exact .dq|omega|skip
  refine aa.pure hA ?_;cases b1:bC s.aj s.ps[i].who==0
  case true =>
   simp only [go_sem,seval,b1];(with_reducible and_intros)<;>first|exact .dq|omega|skip
   exact (e1 (by simp [b1])).symm
  cases b2:bC s.aj s.ps[i].who==3
  case true =>
   simp only [go_sem,seval,b1,b2];(with_reducible and_intros)<;>first|exact .dq|omega|skip
   exact (e1 (by simp [b2])).symm
  cases b3:jm s.aj s.ps[i].bG
  ·simp only [go_sem,seval,b1,b2,b3];(with_reducible and_intros)<;>first|exact .dq|omega|skip
   exact (e1 (by simp [b3])).symm
  simp only [go_sem,seval,b1,b2,b3,hw];(with_reducible and_intros)<;>first|exact .dq|omega|skip
  refine ah.step () hi (e0 (by simp [b1,b2,b3])) ?_;simp only [go_sem,seval]
 intro _ hdx hI;have hA:=nq hI;rw [hA,Bool.true_and];clear hA hI;simp only [go_sem,seval,hdx,aG];clear hdx;refine aC.walk (S:=Unit) s.calls.length [1] [32] (fun i _=>[(10,.int .i64 i)]) (fun i _=>[]) (fun i _=>∀ j (hj:j < s.calls.length),j < i->oJ s.aj s.calls[j]=true) () (by intros;omega) ?_ ?_ ?_
 ·simp only [go_sem,seval]<;>simp
 ·intro i _ hi hdi hw hI;have hm:=aD (c:=aB.cells) s.calls hi;have hli:(i:Int) < (s.calls.length:Int):=by omega
  have e0:=kB hi hI;have e1:oJ s.aj s.calls[i]=false->(s.calls.all (oJ s.aj)&&R)=false:=fun h=>by simp [qS hi h]
  simp only [aB.cells] at hm;simp only [go_sem,seval,hdi,aG,hm];(with_reducible and_intros)<;>first|exact .dq|omega|skip
  refine aa.pure (kS s.calls[i].who) ?_;cases b1:bC s.aj s.calls[i].who==1
  ·simp only [go_sem,seval,bne,b1];exact (e1 b1).symm
  simp only [go_sem,seval,bne,b1,hw];refine ah.step () hi (e0 b1) ?_;simp only [go_sem,seval]
 intro _ hdx hI;have hA:=nq hI;rw [hA,Bool.true_and,hR,<- Bool.and_assoc];clear hA hI hR;simp only [go_sem,seval,hdx,aG];refine aa.pure c7 ?_;cases b7:(!decide (32 < (s.aX.length:Int))&&s.aX.all kf)
 ·simp only [go_sem,seval,Bool.false_and]
 simp only [go_sem,seval];refine aa.pure c8 ?_;simp only [go_sem,seval,Bool.true_and]
theorem Spec.F6 {P:Program} {f:FuncId} {hs ds ds' hs':List D} {d:D} (h:Abs.Spec P f hs ds hs' d) (hl:kX (fun _=>none) (fun _=>false) ds' ds):Abs.Spec P f hs ds' hs' d:=by
 obtain ⟨h1,h2⟩:=w7 hl;refine ⟨h.1,?_⟩;intro w l0 G0 own0 S0 vs hT hl0 hG hsz hr hobj;refine h.2 w l0 G0 own0 S0 vs hT hl0 hG (by rw [hsz,h1]) ?_ hobj;intro i v y hv hy;have hi:i < ds'.length:=by rw [h1];exact (List.getElem?_eq_some_iff.1 hy).1
 have hx:ds'[i]?=some ds'[i]:=List.getElem?_eq_getElem hi;exact jg.rep (C:=cx w l0 S0) (C':=cx w l0 S0) (fun _ _ h=>h) (by intro s r h;cases h) (by intro s _ h;cases h) (hr i v _ hv hx) (h2 i _ _ hx hy)
theorem BN (xs ys:List ak) (hl:xs.length < 4611686018427387904):Abs.Spec Tryz.prog 14 [] [.sl 3 (xs.map ak.cells),.sl 3 (ys.map ak.cells)] [] (.bool (decide (xs=ys))):=by
 refine bg 26 2 [.tmp 4] mixed Tryz.func14 ?_;simp only [go_sem,seval,aG]
 by_cases hlen:xs.length=ys.length
 case neg =>
  have b:((xs.length:Int)==(ys.length:Int))=false:=by rw [beq_eq_false_iff_ne];omega
  have e:decide (xs=ys)=false:=decide_eq_false fun h=>hlen (by rw [h])
  simp only [go_sem,seval,bne,b,e]
 have b:((xs.length:Int)==(ys.length:Int))=true:=by rw [beq_iff_eq];omega
 simp only [go_sem,seval,bne,b,aG];refine aC.walk (S:=Unit) xs.length [0,1,12] [208] (fun i _=>[(13,.int .i64 i)]) (fun i _=>[]) (fun i _=>∀ j (h1:j < xs.length) (h2:j < ys.length),j < i->xs[j]=ys[j]) () (by intros;omega) ?_ ?_ ?_
 ·simp only [go_sem,seval]<;>simp
 ·intro i _ hi hdi hw hI;have hi2:i < ys.length:=by omega
  have hm:=aD (c:=ak.cells) xs hi;have hm2:=aD (c:=ak.cells) ys hi2;have e0:=jA hI hi hi2;have e1:xs[i]≠ys[i]->decide (xs=ys)=false:=fun h=>decide_eq_false fun e=>h (by subst e;rfl)
  have hl1:(i:Int) < (xs.length:Int):=by omega
  have hl2:(i:Int) < (ys.length:Int):=by omega
  obtain ⟨x,hx⟩:=aL (xs[i]);obtain ⟨y,hy⟩:=aL (ys[i]);rw [<- hx] at hm e0 e1;rw [<- hy] at hm2 e0 e1;simp only [ak.cells] at *;clear hx hy hI hlen;simp only [go_sem,seval,aG,hdi,hm,hm2]
  repeat' with_reducible first|apply And.intro|exact .dq|refine aa.pure (by assumption) ?_|refine .aM (fun h=>?_) fun h=>?_|refine .aK (fun h=>?_) fun h=>?_|refine .aO (fun h=>?_) fun h=>?_|refine .split (fun h=>?_) fun h=>?_|refine .id ?_|refine ah.next (by omega) ?_ ?_|exact trivial|simp only [*,go_sem,seval,hm,hm2,aG]
  all_goals first
   | omega
   | (refine ah.step () hi (e0 ?_) ?_
      ·clear e0 e1;cases x;cases y;simp_all;done
      ·simp only [go_sem,seval])
   | (rw [e1 ?_];clear e0 e1;cases x;cases y;simp_all;done)
 ·intro _ hdx hI;have e:decide (xs=ys)=true:=decide_eq_true (ig hlen hI);simp only [go_sem,seval,aG,hdx,e]
theorem G8 (xs ys:List aq) (hl:xs.length < 4611686018427387904):Abs.Spec Tryz.prog 15 [] [.sl 12 (xs.map aq.cells),.sl 12 (ys.map aq.cells)] [] (.bool (decide (xs=ys))):=by
 refine bg 26 2 [.tmp 4] mixed Tryz.func15 ?_;simp only [go_sem,seval,aG]
 by_cases hlen:xs.length=ys.length
 case neg =>
  have b:((xs.length:Int)==(ys.length:Int))=false:=by rw [beq_eq_false_iff_ne];omega
  have e:decide (xs=ys)=false:=decide_eq_false fun h=>hlen (by rw [h])
  simp only [go_sem,seval,bne,b,e]
 have b:((xs.length:Int)==(ys.length:Int))=true:=by rw [beq_iff_eq];omega
 simp only [go_sem,seval,bne,b,aG];refine aC.walk (S:=Unit) xs.length [0,1,12] [208] (fun i _=>[(13,.int .i64 i)]) (fun i _=>[]) (fun i _=>∀ j (h1:j < xs.length) (h2:j < ys.length),j < i->xs[j]=ys[j]) () (by intros;omega) ?_ ?_ ?_
 ·simp only [go_sem,seval]<;>simp
 ·intro i _ hi hdi hw hI;have hi2:i < ys.length:=by omega
  have hm:=aD (c:=aq.cells) xs hi;have hm2:=aD (c:=aq.cells) ys hi2;have e0:=jA hI hi hi2;have e1:xs[i]≠ys[i]->decide (xs=ys)=false:=fun h=>decide_eq_false fun e=>h (by subst e;rfl)
  have hl1:(i:Int) < (xs.length:Int):=by omega
  have hl2:(i:Int) < (ys.length:Int):=by omega
  obtain ⟨x,hx⟩:=aL (xs[i]);obtain ⟨y,hy⟩:=aL (ys[i]);rw [<- hx] at hm e0 e1;rw [<- hy] at hm2 e0 e1;simp only [aq.cells] at *;clear hx hy hI hlen;simp only [go_sem,seval,aG,hdi,hm,hm2]
  repeat' with_reducible first|apply And.intro|exact .dq|refine aa.pure (by assumption) ?_|refine .aM (fun h=>?_) fun h=>?_|refine .aK (fun h=>?_) fun h=>?_|refine .aO (fun h=>?_) fun h=>?_|refine .split (fun h=>?_) fun h=>?_|refine .id ?_|refine ah.next (by omega) ?_ ?_|exact trivial|simp only [*,go_sem,seval,hm,hm2,aG]
  all_goals first
   | omega
   | (refine ah.step () hi (e0 ?_) ?_
      ·clear e0 e1;cases x;cases y;simp_all;done
      ·simp only [go_sem,seval])
   | (rw [e1 ?_];clear e0 e1;cases x;cases y;simp_all;done)
 ·intro _ hdx hI;have e:decide (xs=ys)=true:=decide_eq_true (ig hlen hI);simp only [go_sem,seval,aG,hdx,e]
theorem DR (xs ys:List av) (hl:xs.length < 4611686018427387904):Abs.Spec Tryz.prog 16 [] [.sl 4 (xs.map av.cells),.sl 4 (ys.map av.cells)] [] (.bool (decide (xs=ys))):=by
 refine bg 26 2 [.tmp 4] mixed Tryz.func16 ?_;simp only [go_sem,seval,aG]
 by_cases hlen:xs.length=ys.length
 case neg =>
  have b:((xs.length:Int)==(ys.length:Int))=false:=by rw [beq_eq_false_iff_ne];omega
  have e:decide (xs=ys)=false:=decide_eq_false fun h=>hlen (by rw [h])
  simp only [go_sem,seval,bne,b,e]
 have b:((xs.length:Int)==(ys.length:Int))=true:=by rw [beq_iff_eq];omega
 simp only [go_sem,seval,bne,b,aG];refine aC.walk (S:=Unit) xs.length [0,1,12] [208] (fun i _=>[(13,.int .i64 i)]) (fun i _=>[]) (fun i _=>∀ j (h1:j < xs.length) (h2:j < ys.length),j < i->xs[j]=ys[j]) () (by intros;omega) ?_ ?_ ?_
 ·simp only [go_sem,seval]<;>simp
 ·intro i _ hi hdi hw hI;have hi2:i < ys.length:=by omega
  have hm:=aD (c:=av.cells) xs hi;have hm2:=aD (c:=av.cells) ys hi2;have e0:=jA hI hi hi2;have e1:xs[i]≠ys[i]->decide (xs=ys)=false:=fun h=>decide_eq_false fun e=>h (by subst e;rfl)
  have hl1:(i:Int) < (xs.length:Int):=by omega
  have hl2:(i:Int) < (ys.length:Int):=by omega
  obtain ⟨x,hx⟩:=aL (xs[i]);obtain ⟨y,hy⟩:=aL (ys[i]);rw [<- hx] at hm e0 e1;rw [<- hy] at hm2 e0 e1;simp only [av.cells] at *;clear hx hy hI hlen;simp only [go_sem,seval,aG,hdi,hm,hm2]
  repeat' with_reducible first|apply And.intro|exact .dq|refine aa.pure (by assumption) ?_|refine .aM (fun h=>?_) fun h=>?_|refine .aK (fun h=>?_) fun h=>?_|refine .aO (fun h=>?_) fun h=>?_|refine .split (fun h=>?_) fun h=>?_|refine .id ?_|refine ah.next (by omega) ?_ ?_|exact trivial|simp only [*,go_sem,seval,hm,hm2,aG]
  all_goals first
   | omega
   | (refine ah.step () hi (e0 ?_) ?_
      ·clear e0 e1;cases x;cases y;simp_all;done
      ·simp only [go_sem,seval])
   | (rw [e1 ?_];clear e0 e1;cases x;cases y;simp_all;done)
 ·intro _ hdx hI;have e:decide (xs=ys)=true:=decide_eq_true (ig hlen hI);simp only [go_sem,seval,aG,hdx,e]
theorem D8 (xs ys:List aI) (hl:xs.length < 4611686018427387904):Abs.Spec Tryz.prog 17 [] [.sl 7 (xs.map aI.cells),.sl 7 (ys.map aI.cells)] [] (.bool (decide (xs=ys))):=by
 refine bg 26 2 [.tmp 4] mixed Tryz.func17 ?_;simp only [go_sem,seval,aG]
 by_cases hlen:xs.length=ys.length
 case neg =>
  have b:((xs.length:Int)==(ys.length:Int))=false:=by rw [beq_eq_false_iff_ne];omega
  have e:decide (xs=ys)=false:=decide_eq_false fun h=>hlen (by rw [h])
  simp only [go_sem,seval,bne,b,e]
 have b:((xs.length:Int)==(ys.length:Int))=true:=by rw [beq_iff_eq];omega
 simp only [go_sem,seval,bne,b,aG];refine aC.walk (S:=Unit) xs.length [0,1,12] [208] (fun i _=>[(13,.int .i64 i)]) (fun i _=>[]) (fun i _=>∀ j (h1:j < xs.length) (h2:j < ys.length),j < i->xs[j]=ys[j]) () (by intros;omega) ?_ ?_ ?_
 ·simp only [go_sem,seval]<;>simp
 ·intro i _ hi hdi hw hI;have hi2:i < ys.length:=by omega
  have hm:=aD (c:=aI.cells) xs hi;have hm2:=aD (c:=aI.cells) ys hi2;have e0:=jA hI hi hi2;have e1:xs[i]≠ys[i]->decide (xs=ys)=false:=fun h=>decide_eq_false fun e=>h (by subst e;rfl)
  have hl1:(i:Int) < (xs.length:Int):=by omega
  have hl2:(i:Int) < (ys.length:Int):=by omega
  obtain ⟨x,hx⟩:=aL (xs[i]);obtain ⟨y,hy⟩:=aL (ys[i]);rw [<- hx] at hm e0 e1;rw [<- hy] at hm2 e0 e1;simp only [aI.cells] at *;clear hx hy hI hlen;simp only [go_sem,seval,aG,hdi,hm,hm2]
  repeat' with_reducible first|apply And.intro|exact .dq|refine aa.pure (by assumption) ?_|refine .aM (fun h=>?_) fun h=>?_|refine .aK (fun h=>?_) fun h=>?_|refine .aO (fun h=>?_) fun h=>?_|refine .split (fun h=>?_) fun h=>?_|refine .id ?_|refine ah.next (by omega) ?_ ?_|exact trivial|simp only [*,go_sem,seval,hm,hm2,aG]
  all_goals first
   | omega
   | (refine ah.step () hi (e0 ?_) ?_
      ·clear e0 e1;cases x;cases y;simp_all;done
      ·simp only [go_sem,seval])
   | (rw [e1 ?_];clear e0 e1;cases x;cases y;simp_all;done)
 ·intro _ hdx hI;have e:decide (xs=ys)=true:=decide_eq_true (ig hlen hI);simp only [go_sem,seval,aG,hdx,e]
theorem Jh (xs ys:List aA) (hl:xs.length < 4611686018427387904):Abs.Spec Tryz.prog 18 [] [.sl 4 (xs.map aA.cells),.sl 4 (ys.map aA.cells)] [] (.bool (decide (xs=ys))):=by
 refine bg 26 2 [.tmp 4] mixed Tryz.func18 ?_;simp only [go_sem,seval,aG]
 by_cases hlen:xs.length=ys.length
 case neg =>
  have b:((xs.length:Int)==(ys.length:Int))=false:=by rw [beq_eq_false_iff_ne];omega
  have e:decide (xs=ys)=false:=decide_eq_false fun h=>hlen (by rw [h])
  simp only [go_sem,seval,bne,b,e]
 have b:((xs.length:Int)==(ys.length:Int))=true:=by rw [beq_iff_eq];omega
 simp only [go_sem,seval,bne,b,aG];refine aC.walk (S:=Unit) xs.length [0,1,12] [208] (fun i _=>[(13,.int .i64 i)]) (fun i _=>[]) (fun i _=>∀ j (h1:j < xs.length) (h2:j < ys.length),j < i->xs[j]=ys[j]) () (by intros;omega) ?_ ?_ ?_
 ·simp only [go_sem,seval]<;>simp
 ·intro i _ hi hdi hw hI;have hi2:i < ys.length:=by omega
  have hm:=aD (c:=aA.cells) xs hi;have hm2:=aD (c:=aA.cells) ys hi2;have e0:=jA hI hi hi2;have e1:xs[i]≠ys[i]->decide (xs=ys)=false:=fun h=>decide_eq_false fun e=>h (by subst e;rfl)
  have hl1:(i:Int) < (xs.length:Int):=by omega
  have hl2:(i:Int) < (ys.length:Int):=by omega
  obtain ⟨x,hx⟩:=aL (xs[i]);obtain ⟨y,hy⟩:=aL (ys[i]);rw [<- hx] at hm e0 e1;rw [<- hy] at hm2 e0 e1;simp only [aA.cells] at *;clear hx hy hI hlen;simp only [go_sem,seval,aG,hdi,hm,hm2]
  repeat' with_reducible first|apply And.intro|exact .dq|refine aa.pure (by assumption) ?_|refine .aM (fun h=>?_) fun h=>?_|refine .aK (fun h=>?_) fun h=>?_|refine .aO (fun h=>?_) fun h=>?_|refine .split (fun h=>?_) fun h=>?_|refine .id ?_|refine ah.next (by omega) ?_ ?_|exact trivial|simp only [*,go_sem,seval,hm,hm2,aG]
  all_goals first
   | omega
   | (refine ah.step () hi (e0 ?_) ?_
      ·clear e0 e1;cases x;cases y;simp_all;done
      ·simp only [go_sem,seval])
   | (rw [e1 ?_];clear e0 e1;cases x;cases y;simp_all;done)
 ·intro _ hdx hI;have e:decide (xs=ys)=true:=decide_eq_true (ig hlen hI);simp only [go_sem,seval,aG,hdx,e]
theorem J8 (xs ys:List bp) (hl:xs.length < 4611686018427387904):Abs.Spec Tryz.prog 19 [] [.sl 4 (xs.map bp.cells),.sl 4 (ys.map bp.cells)] [] (.bool (decide (xs=ys))):=by
 refine bg 26 2 [.tmp 4] mixed Tryz.func19 ?_;simp only [go_sem,seval,aG]
 by_cases hlen:xs.length=ys.length
 case neg =>
  have b:((xs.length:Int)==(ys.length:Int))=false:=by rw [beq_eq_false_iff_ne];omega
  have e:decide (xs=ys)=false:=decide_eq_false fun h=>hlen (by rw [h])
  simp only [go_sem,seval,bne,b,e]
 have b:((xs.length:Int)==(ys.length:Int))=true:=by rw [beq_iff_eq];omega
 simp only [go_sem,seval,bne,b,aG];refine aC.walk (S:=Unit) xs.length [0,1,12] [208] (fun i _=>[(13,.int .i64 i)]) (fun i _=>[]) (fun i _=>∀ j (h1:j < xs.length) (h2:j < ys.length),j < i->xs[j]=ys[j]) () (by intros;omega) ?_ ?_ ?_
 ·simp only [go_sem,seval]<;>simp
 ·intro i _ hi hdi hw hI;have hi2:i < ys.length:=by omega
  have hm:=aD (c:=bp.cells) xs hi;have hm2:=aD (c:=bp.cells) ys hi2;have e0:=jA hI hi hi2;have e1:xs[i]≠ys[i]->decide (xs=ys)=false:=fun h=>decide_eq_false fun e=>h (by subst e;rfl)
  have hl1:(i:Int) < (xs.length:Int):=by omega
  have hl2:(i:Int) < (ys.length:Int):=by omega
  obtain ⟨x,hx⟩:=aL (xs[i]);obtain ⟨y,hy⟩:=aL (ys[i]);rw [<- hx] at hm e0 e1;rw [<- hy] at hm2 e0 e1;simp only [bp.cells] at *;clear hx hy hI hlen;simp only [go_sem,seval,aG,hdi,hm,hm2]
  repeat' with_reducible first|apply And.intro|exact .dq|refine aa.pure (by assumption) ?_|refine .aM (fun h=>?_) fun h=>?_|refine .aK (fun h=>?_) fun h=>?_|refine .aO (fun h=>?_) fun h=>?_|refine .split (fun h=>?_) fun h=>?_|refine .id ?_|refine ah.next (by omega) ?_ ?_|exact trivial|simp only [*,go_sem,seval,hm,hm2,aG]
  all_goals first
   | omega
   | (refine ah.step () hi (e0 ?_) ?_
      ·clear e0 e1;cases x;cases y;simp_all;done
      ·simp only [go_sem,seval])
   | (rw [e1 ?_];clear e0 e1;cases x;cases y;simp_all;done)
 ·intro _ hdx hI;have e:decide (xs=ys)=true:=decide_eq_true (ig hlen hI);simp only [go_sem,seval,aG,hdx,e]
theorem Le (xs ys:List eO) (hl:xs.length < 4611686018427387904):Abs.Spec Tryz.prog 20 [] [.sl 3 (xs.map eO.cells),.sl 3 (ys.map eO.cells)] [] (.bool (decide (xs=ys))):=by
 refine bg 26 2 [.tmp 4] mixed Tryz.func20 ?_;simp only [go_sem,seval,aG]
 by_cases hlen:xs.length=ys.length
 case neg =>
  have b:((xs.length:Int)==(ys.length:Int))=false:=by rw [beq_eq_false_iff_ne];omega
  have e:decide (xs=ys)=false:=decide_eq_false fun h=>hlen (by rw [h])
  simp only [go_sem,seval,bne,b,e]
 have b:((xs.length:Int)==(ys.length:Int))=true:=by rw [beq_iff_eq];omega
 simp only [go_sem,seval,bne,b,aG];refine aC.walk (S:=Unit) xs.length [0,1,12] [208] (fun i _=>[(13,.int .i64 i)]) (fun i _=>[]) (fun i _=>∀ j (h1:j < xs.length) (h2:j < ys.length),j < i->xs[j]=ys[j]) () (by intros;omega) ?_ ?_ ?_
 ·simp only [go_sem,seval]<;>simp
 ·intro i _ hi hdi hw hI;have hi2:i < ys.length:=by omega
  have hm:=aD (c:=eO.cells) xs hi;have hm2:=aD (c:=eO.cells) ys hi2;have e0:=jA hI hi hi2;have e1:xs[i]≠ys[i]->decide (xs=ys)=false:=fun h=>decide_eq_false fun e=>h (by subst e;rfl)
  have hl1:(i:Int) < (xs.length:Int):=by omega
  have hl2:(i:Int) < (ys.length:Int):=by omega
  obtain ⟨x,hx⟩:=aL (xs[i]);obtain ⟨y,hy⟩:=aL (ys[i]);rw [<- hx] at hm e0 e1;rw [<- hy] at hm2 e0 e1;simp only [eO.cells] at *;clear hx hy hI hlen;simp only [go_sem,seval,aG,hdi,hm,hm2]
  repeat' with_reducible first|apply And.intro|exact .dq|refine aa.pure (by assumption) ?_|refine .aM (fun h=>?_) fun h=>?_|refine .aK (fun h=>?_) fun h=>?_|refine .aO (fun h=>?_) fun h=>?_|refine .split (fun h=>?_) fun h=>?_|refine .id ?_|refine ah.next (by omega) ?_ ?_|exact trivial|simp only [*,go_sem,seval,hm,hm2,aG]
  all_goals first
   | omega
   | (refine ah.step () hi (e0 ?_) ?_
      ·clear e0 e1;cases x;cases y;simp_all;done
      ·simp only [go_sem,seval])
   | (rw [e1 ?_];clear e0 e1;cases x;cases y;simp_all;done)
 ·intro _ hdx hI;have e:decide (xs=ys)=true:=decide_eq_true (ig hlen hI);simp only [go_sem,seval,aG,hdx,e]
theorem GZ (xs ys:List aB) (hl:xs.length < 4611686018427387904):Abs.Spec Tryz.prog 21 [] [.sl 4 (xs.map aB.cells),.sl 4 (ys.map aB.cells)] [] (.bool (decide (xs=ys))):=by
 refine bg 26 2 [.tmp 4] mixed Tryz.func21 ?_;simp only [go_sem,seval,aG]
 by_cases hlen:xs.length=ys.length
 case neg =>
  have b:((xs.length:Int)==(ys.length:Int))=false:=by rw [beq_eq_false_iff_ne];omega
  have e:decide (xs=ys)=false:=decide_eq_false fun h=>hlen (by rw [h])
  simp only [go_sem,seval,bne,b,e]
 have b:((xs.length:Int)==(ys.length:Int))=true:=by rw [beq_iff_eq];omega
 simp only [go_sem,seval,bne,b,aG];refine aC.walk (S:=Unit) xs.length [0,1,12] [208] (fun i _=>[(13,.int .i64 i)]) (fun i _=>[]) (fun i _=>∀ j (h1:j < xs.length) (h2:j < ys.length),j < i->xs[j]=ys[j]) () (by intros;omega) ?_ ?_ ?_
 ·simp only [go_sem,seval]<;>simp
 ·intro i _ hi hdi hw hI;have hi2:i < ys.length:=by omega
  have hm:=aD (c:=aB.cells) xs hi;have hm2:=aD (c:=aB.cells) ys hi2;have e0:=jA hI hi hi2;have e1:xs[i]≠ys[i]->decide (xs=ys)=false:=fun h=>decide_eq_false fun e=>h (by subst e;rfl)
  have hl1:(i:Int) < (xs.length:Int):=by omega
  have hl2:(i:Int) < (ys.length:Int):=by omega
  obtain ⟨x,hx⟩:=aL (xs[i]);obtain ⟨y,hy⟩:=aL (ys[i]);rw [<- hx] at hm e0 e1;rw [<- hy] at hm2 e0 e1;simp only [aB.cells] at *;clear hx hy hI hlen;simp only [go_sem,seval,aG,hdi,hm,hm2]
  repeat' with_reducible first|apply And.intro|exact .dq|refine aa.pure (by assumption) ?_|refine .aM (fun h=>?_) fun h=>?_|refine .aK (fun h=>?_) fun h=>?_|refine .aO (fun h=>?_) fun h=>?_|refine .split (fun h=>?_) fun h=>?_|refine .id ?_|refine ah.next (by omega) ?_ ?_|exact trivial|simp only [*,go_sem,seval,hm,hm2,aG]
  all_goals first
   | omega
   | (refine ah.step () hi (e0 ?_) ?_
      ·clear e0 e1;cases x;cases y;simp_all;done
      ·simp only [go_sem,seval])
   | (rw [e1 ?_];clear e0 e1;cases x;cases y;simp_all;done)
 ·intro _ hdx hI;have e:decide (xs=ys)=true:=decide_eq_true (ig hlen hI);simp only [go_sem,seval,aG,hdx,e]
theorem HS (xs ys:List bu) (hl:xs.length < 4611686018427387904):Abs.Spec Tryz.prog 22 [] [.sl 5 (xs.map bu.cells),.sl 5 (ys.map bu.cells)] [] (.bool (decide (xs=ys))):=by
 refine bg 26 2 [.tmp 4] mixed Tryz.func22 ?_;simp only [go_sem,seval,aG]
 by_cases hlen:xs.length=ys.length
 case neg =>
  have b:((xs.length:Int)==(ys.length:Int))=false:=by rw [beq_eq_false_iff_ne];omega
  have e:decide (xs=ys)=false:=decide_eq_false fun h=>hlen (by rw [h])
  simp only [go_sem,seval,bne,b,e]
 have b:((xs.length:Int)==(ys.length:Int))=true:=by rw [beq_iff_eq];omega
 simp only [go_sem,seval,bne,b,aG];refine aC.walk (S:=Unit) xs.length [0,1,12] [208] (fun i _=>[(13,.int .i64 i)]) (fun i _=>[]) (fun i _=>∀ j (h1:j < xs.length) (h2:j < ys.length),j < i->xs[j]=ys[j]) () (by intros;omega) ?_ ?_ ?_
 ·simp only [go_sem,seval]<;>simp
 ·intro i _ hi hdi hw hI;have hi2:i < ys.length:=by omega
  have hm:=aD (c:=bu.cells) xs hi;have hm2:=aD (c:=bu.cells) ys hi2;have e0:=jA hI hi hi2;have e1:xs[i]≠ys[i]->decide (xs=ys)=false:=fun h=>decide_eq_false fun e=>h (by subst e;rfl)
  have hl1:(i:Int) < (xs.length:Int):=by omega
  have hl2:(i:Int) < (ys.length:Int):=by omega
  obtain ⟨x,hx⟩:=aL (xs[i]);obtain ⟨y,hy⟩:=aL (ys[i]);rw [<- hx] at hm e0 e1;rw [<- hy] at hm2 e0 e1;simp only [bu.cells] at *;clear hx hy hI hlen;simp only [go_sem,seval,aG,hdi,hm,hm2]
  repeat' with_reducible first|apply And.intro|exact .dq|refine aa.pure (by assumption) ?_|refine .aM (fun h=>?_) fun h=>?_|refine .aK (fun h=>?_) fun h=>?_|refine .aO (fun h=>?_) fun h=>?_|refine .split (fun h=>?_) fun h=>?_|refine .id ?_|refine ah.next (by omega) ?_ ?_|exact trivial|simp only [*,go_sem,seval,hm,hm2,aG]
  all_goals first
   | omega
   | (refine ah.step () hi (e0 ?_) ?_
      ·clear e0 e1;cases x;cases y;simp_all;done
      ·simp only [go_sem,seval])
   | (rw [e1 ?_];clear e0 e1;cases x;cases y;simp_all;done)
 ·intro _ hdx hI;have e:decide (xs=ys)=true:=decide_eq_true (ig hlen hI);simp only [go_sem,seval,aG,hdx,e]
theorem Jj (xs ys:List aN) (hl:xs.length < 4611686018427387904):Abs.Spec Tryz.prog 33 [] [.sl 3 (xs.map aN.cells),.sl 3 (ys.map aN.cells)] [] (.bool (decide (xs=ys))):=by
 refine bg 26 2 [.tmp 4] mixed Tryz.func33 ?_;simp only [go_sem,seval,aG]
 by_cases hlen:xs.length=ys.length
 case neg =>
  have b:((xs.length:Int)==(ys.length:Int))=false:=by rw [beq_eq_false_iff_ne];omega
  have e:decide (xs=ys)=false:=decide_eq_false fun h=>hlen (by rw [h])
  simp only [go_sem,seval,bne,b,e]
 have b:((xs.length:Int)==(ys.length:Int))=true:=by rw [beq_iff_eq];omega
 simp only [go_sem,seval,bne,b,aG];refine aC.walk (S:=Unit) xs.length [0,1,12] [208] (fun i _=>[(13,.int .i64 i)]) (fun i _=>[]) (fun i _=>∀ j (h1:j < xs.length) (h2:j < ys.length),j < i->xs[j]=ys[j]) () (by intros;omega) ?_ ?_ ?_
 ·simp only [go_sem,seval]<;>simp
 ·intro i _ hi hdi hw hI;have hi2:i < ys.length:=by omega
  have hm:=aD (c:=aN.cells) xs hi;have hm2:=aD (c:=aN.cells) ys hi2;have e0:=jA hI hi hi2;have e1:xs[i]≠ys[i]->decide (xs=ys)=false:=fun h=>decide_eq_false fun e=>h (by subst e;rfl)
  have hl1:(i:Int) < (xs.length:Int):=by omega
  have hl2:(i:Int) < (ys.length:Int):=by omega
  obtain ⟨x,hx⟩:=aL (xs[i]);obtain ⟨y,hy⟩:=aL (ys[i]);rw [<- hx] at hm e0 e1;rw [<- hy] at hm2 e0 e1;simp only [aN.cells] at *;clear hx hy hI hlen;simp only [go_sem,seval,aG,hdi,hm,hm2]
  repeat' with_reducible first|apply And.intro|exact .dq|refine aa.pure (by assumption) ?_|refine .aM (fun h=>?_) fun h=>?_|refine .aK (fun h=>?_) fun h=>?_|refine .aO (fun h=>?_) fun h=>?_|refine .split (fun h=>?_) fun h=>?_|refine .id ?_|refine ah.next (by omega) ?_ ?_|exact trivial|simp only [*,go_sem,seval,hm,hm2,aG]
  all_goals first
   | omega
   | (refine ah.step () hi (e0 ?_) ?_
      ·clear e0 e1;cases x;cases y;simp_all;done
      ·simp only [go_sem,seval])
   | (rw [e1 ?_];clear e0 e1;cases x;cases y;simp_all;done)
 ·intro _ hdx hI;have e:decide (xs=ys)=true:=decide_eq_true (ig hlen hI);simp only [go_sem,seval,aG,hdx,e]
theorem Hi (xs ys:List dM) (hl:xs.length < 4611686018427387904):Abs.Spec Tryz.prog 34 [] [.sl 8 (xs.map dM.cells),.sl 8 (ys.map dM.cells)] [] (.bool (decide (xs=ys))):=by
 refine bg 26 2 [.tmp 4] mixed Tryz.func34 ?_;simp only [go_sem,seval,aG]
 by_cases hlen:xs.length=ys.length
 case neg =>
  have b:((xs.length:Int)==(ys.length:Int))=false:=by rw [beq_eq_false_iff_ne];omega
  have e:decide (xs=ys)=false:=decide_eq_false fun h=>hlen (by rw [h])
  simp only [go_sem,seval,bne,b,e]
 have b:((xs.length:Int)==(ys.length:Int))=true:=by rw [beq_iff_eq];omega
 simp only [go_sem,seval,bne,b,aG];refine aC.walk (S:=Unit) xs.length [0,1,12] [208] (fun i _=>[(13,.int .i64 i)]) (fun i _=>[]) (fun i _=>∀ j (h1:j < xs.length) (h2:j < ys.length),j < i->xs[j]=ys[j]) () (by intros;omega) ?_ ?_ ?_
 ·simp only [go_sem,seval]<;>simp
 ·intro i _ hi hdi hw hI;have hi2:i < ys.length:=by omega
  have hm:=aD (c:=dM.cells) xs hi;have hm2:=aD (c:=dM.cells) ys hi2;have e0:=jA hI hi hi2;have e1:xs[i]≠ys[i]->decide (xs=ys)=false:=fun h=>decide_eq_false fun e=>h (by subst e;rfl)
  have hl1:(i:Int) < (xs.length:Int):=by omega
  have hl2:(i:Int) < (ys.length:Int):=by omega
  obtain ⟨x,hx⟩:=aL (xs[i]);obtain ⟨y,hy⟩:=aL (ys[i]);rw [<- hx] at hm e0 e1;rw [<- hy] at hm2 e0 e1;simp only [dM.cells] at *;clear hx hy hI hlen;simp only [go_sem,seval,aG,hdi,hm,hm2]
  repeat' with_reducible first|apply And.intro|exact .dq|refine aa.pure (by assumption) ?_|refine .aM (fun h=>?_) fun h=>?_|refine .aK (fun h=>?_) fun h=>?_|refine .aO (fun h=>?_) fun h=>?_|refine .split (fun h=>?_) fun h=>?_|refine .id ?_|refine ah.next (by omega) ?_ ?_|exact trivial|simp only [*,go_sem,seval,hm,hm2,aG]
  all_goals first
   | omega
   | (refine ah.step () hi (e0 ?_) ?_
      ·clear e0 e1;cases x;cases y;simp_all;done
      ·simp only [go_sem,seval])
   | (rw [e1 ?_];clear e0 e1;cases x;cases y;simp_all;done)
 ·intro _ hdx hI;have e:decide (xs=ys)=true:=decide_eq_true (ig hlen hI);simp only [go_sem,seval,aG,hdx,e]
theorem Hh (a b:bE) (h1:a.r.DW.length < 4611686018427387904) (h2:a.r.falls.length < 4611686018427387904):Abs.Spec Tryz.prog 32 [] [.agg a.cells,.agg b.cells] [] (.bool (decide (a=b))):=by
 have c1:=Jj a.r.DW b.r.DW h1;have c2:=Hi a.r.falls b.r.falls h2;simp only [bE.cells];refine bg 62 2 [.tmp 4] mixed Tryz.func32 ?_;simp only [go_sem,seval]
 repeat' with_reducible first|apply And.intro|exact .dq|refine aa.pure (by assumption) ?_|refine aa.pure (c1) ?_|refine aa.pure (c2) ?_|refine .aM (fun h=>?_) fun h=>?_|refine .aK (fun h=>?_) fun h=>?_|refine .aO (fun h=>?_) fun h=>?_|refine .split (fun h=>?_) fun h=>?_|refine .id ?_|refine ah.next (by omega) ?_ ?_|exact trivial|simp only [*,go_sem,seval]
 all_goals (rw [Bool.eq_iff_iff];obtain ⟨x1,x2,⟨x3,x4,x5,x6,x7⟩⟩:=a;obtain ⟨y1,y2,⟨y3,y4,y5,y6,y7⟩⟩:=b;simp_all)
theorem FR (xs ys:List bE) (hl:xs.length < 4611686018427387904) (hq:∀ x∈xs,x.r.DW.length < 4611686018427387904/\x.r.falls.length < 4611686018427387904):Abs.Spec Tryz.prog 31 [] [.sl 7 (xs.map bE.cells),.sl 7 (ys.map bE.cells),.fn 32 []] [] (.bool (decide (xs=ys))):=by
 refine bg 32 3 [.tmp 6] mixed Tryz.func31 ?_;simp only [go_sem,seval,aG]
 by_cases hlen:xs.length=ys.length
 case neg =>
  have b:((xs.length:Int)==(ys.length:Int))=false:=by rw [beq_eq_false_iff_ne];omega
  have e:decide (xs=ys)=false:=decide_eq_false fun h=>hlen (by rw [h])
  simp only [go_sem,seval,bne,b,e]
 have b:((xs.length:Int)==(ys.length:Int))=true:=by rw [beq_iff_eq];omega
 simp only [go_sem,seval,bne,b,aG];refine aC.walk (S:=Unit) xs.length [1,2,15,16] [] (fun i _=>[(17,.int .i64 i)]) (fun i _=>[]) (fun i _=>∀ j (h1:j < xs.length) (h2:j < ys.length),j < i->xs[j]=ys[j]) () (by intros;omega) ?_ ?_ ?_
 ·simp only [go_sem,seval]<;>simp
 ·intro i _ hi hdi hw hI;have hi2:i < ys.length:=by omega
  have hm:=aD (c:=bE.cells) xs hi;have hm2:=aD (c:=bE.cells) ys hi2;have e0:=jA hI hi hi2;have e1:xs[i]≠ys[i]->decide (xs=ys)=false:=fun h=>decide_eq_false fun e=>h (by subst e;rfl)
  have hl2:(i:Int) < (ys.length:Int):=by omega
  have hc:=Hh xs[i] ys[i] (hq _ (List.getElem_mem hi)).1 (hq _ (List.getElem_mem hi)).2;simp only [bE.cells] at hm hm2 hc;simp only [go_sem,seval,aG,hdi,hm,hm2];(with_reducible and_intros)<;>first|exact .dq|omega|skip
  refine aa.pure hc ?_
  by_cases he:xs[i]=ys[i]
  ·have d:decide (xs[i]=ys[i])=true:=decide_eq_true he;simp only [go_sem,seval,d,hw];refine ah.step () hi (e0 he) ?_;simp only [go_sem,seval]
  ·have d:decide (xs[i]=ys[i])=false:=decide_eq_false he;simp only [go_sem,seval,d,e1 he]
 ·intro _ hdx hI;have e:decide (xs=ys)=true:=decide_eq_true (ig hlen hI);simp only [go_sem,seval,aG,hdx,e]
theorem CF (xs ys:List bE) (hl:xs.length < 4611686018427387904) (hq:∀ x∈xs,x.r.DW.length < 4611686018427387904/\x.r.falls.length < 4611686018427387904):Abs.Spec Tryz.prog 23 [] [.sl 7 (xs.map bE.cells),.sl 7 (ys.map bE.cells)] [] (.bool (decide (xs=ys))):=by
 have h:=FR xs ys hl hq;refine bg 8 2 [.tmp 4] mixed Tryz.func23 ?_;simp only [go_sem,seval];refine aa.pure h ?_;simp only [go_sem,seval]
def qZ (s:af) (n:Int):Bool:=az (bR n s.book.qs)==0
def mZ (s:af) (c:Int):Bool:=az (nP c [] s.aU.bs)==0
def pZ (s:af) (c:Int):Bool:=az (oz c s.aU.bs++BL s.aj c s.book.qs)==0
def ir (s:af):Bool:=br s&&((List.range 8).all (fun i=>qZ s ((i:Int)+1))&&(List.range 3).all (fun c=>mZ s (c:Nat)&&pZ s (c:Nat)))
theorem CC (S:Int):(zF S==0&&zC S==0)=(S==0):=by
 rw [Bool.eq_iff_iff];simp only [zF,zC,bZ,beq_iff_eq];constructor
 ·rintro ⟨h1,h2⟩
  split at h1
  ·rename_i h;rw [if_pos h] at h2;exact h2
  ·cases h1
 ·rintro rfl
  exact ⟨rfl,rfl⟩
theorem Ku {n i:Nat} {f:Nat->Bool} (h:i < n) (hf:f i=false):(List.range n).all f=false:=by
 cases hc:(List.range n).all f
 ·rfl
 ·rw [List.all_eq_true.1 hc i (List.mem_range.2 h)] at hf;cases hf
theorem EW {n:Nat} {f:Nat->Bool} (h:∀ i < n,f i=true):(List.range n).all f=true:=List.all_eq_true.2 fun i hi=>h i (List.mem_range.1 hi)
theorem lt_next {n:Nat} {f:Nat->Bool} (hI:∀ i < n,f i=true) (h:f n=true):∀ i < n+1,f i=true:=fun i hi=>by
 rcases Nat.lt_or_ge i n with h1 | h1
 ·exact hI i h1
 ·obtain rfl:i=n:=by omega
  exact h
structure af.mid (s:af):Prop where
 small:s.small
 bs:s.aU.bs.length < 2 ^ 20
 qs:s.book.qs.length < 2 ^ 20
 ns:s.aj.ns.length < 2 ^ 20
theorem Jp (a b:aq):Abs.Spec Tryz.prog 47 [] [.agg a.cells,.bF b.cells] [] (.bool (a.no==b.no)):=by
 simp only [aq.cells];refine bg 9 2 [.tmp 3] mixed Tryz.func47 ?_;simp only [go_sem,seval]
theorem Cr (xs:List aq) (x:aq) (hl:xs.length < 2 ^ 60):Abs.Spec Tryz.prog 108 [] [.sl 12 (xs.map aq.cells),.fn 47 [.bF x.cells]] [] (.int .i64 (fT aq.no x.no xs)):=by
 have h:=fun a=>Jp a x
 simp only [aq.cells] at h |-;refine bg 19 2 [.tmp 4] mixed Tryz.func108 ?_;simp only [go_sem,seval,aG];refine aC.walk (S:=Unit) xs.length [0,1,7] [] (fun i _=>[(8,.int .i64 i)]) (fun i _=>[]) (fun i _=>∀ j (hj:j < xs.length),j < i->xs[j].no≠x.no) () (by intros;omega) ?_ ?_ ?_
 ·simp only [go_sem,seval]<;>simp
 ·intro i _ hi hdi hw hI;have hm:=aD (c:=aq.cells) xs hi;have hli:(i:Int) < (xs.length:Int):=by omega
  have hc:=h xs[i];simp only [aq.cells] at hm;simp only [go_sem,seval,hdi,aG,hm];(with_reducible and_intros)<;>first|exact .dq|omega|skip
  refine aa.pure hc ?_;cases hb:xs[i].no==x.no
  ·have hb2:xs[i].no≠x.no:=by simpa using hb
   simp only [go_sem,seval,hb,hw];refine ah.step () hi ?_ ?_
   ·intro j hj hji;rcases Nat.lt_or_ge j i with h | h
    ·exact hI j hj h
    ·obtain rfl:j=i:=by omega
     exact hb2
   ·simp only [go_sem,seval]
  ·have hb2:xs[i].no=x.no:=by simpa using hb
   obtain ⟨g1,g2⟩:=gW (z:=aq.zero) hi hI hb2;rw [g2];simp only [go_sem,seval,hb]
 ·intro _ hdx hI;obtain ⟨g1,g2⟩:=fR (z:=aq.zero) (fun j hj=>hI j hj hj);rw [g2];simp only [go_sem,seval,hdx]
theorem vZ (xs:List aq) (x:aq) (hl:xs.length < 2 ^ 60):Abs.Spec Tryz.prog 46 [] [.sl 12 (xs.map aq.cells),.fn 47 [.bF x.cells]] [] (.bool (rO xs x.no)):=by
 have h:=Cr xs x hl;have e:decide (0<=fT aq.no x.no xs)=rO xs x.no:=by rw [nw];rfl
 simp only [aq.cells] at h |-;refine bg 9 2 [.tmp 4] mixed Tryz.func46 ?_;simp only [go_sem,seval];refine aa.pure h ?_;simp only [go_sem,seval,e]
theorem zD (s:af) (c:Int) (hr:s.cE) (hl:s.aU.bs.length < 2 ^ 20) (hq:s.book.qs.length < 2 ^ 11) (hn:s.aj.ns.length < 2 ^ 11):Abs.Spec Tryz.prog 27 [] [.agg s.cells,.int .i64 c] [] (.bI [.int .i64 (zC (az (oz c s.aU.bs++BL s.aj c s.book.qs))),.int .i64 (zF (az (oz c s.aU.bs++BL s.aj c s.book.qs)))]):=by
 have l1:=JK c s.aU.bs;have l2:=Ki (c:=c) (qs:=s.book.qs) s.aj.ns [];have l3:s.aj.ns.length*s.book.qs.length<=2048*2048:=Nat.mul_le_mul (by omega) (by omega)
 have hS:=pO (oz c s.aU.bs++vK c s.book.qs [] s.aj.ns) (by simp;omega) (fun q hq=>by
  rcases List.mem_append.1 hq with hq | hq
  ·exact G3 (QF hr.bs q hq)
  ·exact Kp hr.qs _ _ hr.ns q hq)
 have hsum:az (oz c s.aU.bs++vK c s.book.qs [] s.aj.ns)=az (oz c s.aU.bs++BL s.aj c s.book.qs):=by
  rw [cY,cY,U6]
 rw [hsum] at hS;simp only [af.cells];refine bg 83 2 [.tmp 4,.tmp 5] mixed Tryz.func27 ?_;simp only [go_sem,seval,aG];refine aC.walk (S:=Unit) s.aU.bs.length [1,2,15,16] [48,272] (fun i _=>[(17,.int .i64 i),(6,.ref 512)]) (fun i _=>[(512,.own 2 (kD (oz c (s.aU.bs.take i))))]) (fun _ _=>True) () trivial ?_ ?_ ?_
 ·simp only [go_sem,seval]<;>simp [oz,kD]
 ·intro i _ hi hdi hwi _;have hm:=aD (c:=bp.cells) s.aU.bs hi;have hs:=Oy c s.aU.bs hi;have hlen:=JK c (s.aU.bs.take i);have hlt:(s.aU.bs.take i).length=i:=by simp;omega
  obtain ⟨z,hz⟩:=aL (s.aU.bs[i]);have hO:=oH z.sum (by rw [hz];exact (hr.bs _ (List.getElem_mem hi)).2.2.2);rw [<- hz] at hm hs;simp only [bp.cells] at hm;simp only [wd] at hO;simp only [isVar] at hs;simp only [go_sem,seval,hdi,hm];(with_reducible and_intros)<;>first|exact .dq|omega|skip
  cases b1:z.kind==5
  ·simp only [b1,Bool.false_and,fY,if_false] at hs;simp only [go_sem,seval,b1,hwi];refine ah.step () hi trivial ?_;simp only [go_sem,seval,hs]
  cases b2:z.who==0
  ·simp only [b1,b2,Bool.false_and,Bool.and_false,fY,if_false] at hs;simp only [go_sem,seval,b1,b2,hwi];refine ah.step () hi trivial ?_;simp only [go_sem,seval,hs]
  cases b3:z.cur==c
  ·simp only [b1,b2,b3,Bool.and_false,fY,if_false] at hs;simp only [go_sem,seval,b1,b2,b3,hwi];refine ah.step () hi trivial ?_;simp only [go_sem,seval,hs]
  simp only [b1,b2,b3,Bool.and_self,if_true] at hs;simp only [go_sem,seval,b1,b2,b3];refine aa.pure hO ?_;simp only [go_sem,seval,hwi];(with_reducible and_intros)<;>first|exact .dq|omega|skip
  refine ah.step () hi trivial ?_;simp only [go_sem,seval,hs]<;>simp [kD,wd]
 intro _ hdx _;obtain ⟨Vs,hVs⟩:=aL (oz c s.aU.bs);rw [<- hVs] at hS l1;simp only [go_sem,seval,hdx,List.take_length,aG,<- hVs];clear hdx;refine aC.walk (S:=List Int) s.aj.ns.length [1,2,35,36] [48,592] (fun i _=>[(37,.int .i64 i),(6,.ref 1232)]) (fun _ L=>[(1232,.own 2 (kD (Vs++L)))]) (fun k L=>L.length<=k*s.book.qs.length/\L++vK c s.book.qs (s.aj.ns.take k) (s.aj.ns.drop k)=vK c s.book.qs [] s.aj.ns) [] (by simp) ?_ ?_ ?_
 ·simp only [go_sem,seval]<;>simp
 ·rintro k L hk hdk hwk ⟨hL,hI⟩
  have hm:=aD (c:=aq.cells) s.aj.ns hk;obtain ⟨x,hx⟩:=aL (s.aj.ns[k]);have hxr:x.cE:=by rw [hx];exact hr.ns _ (List.getElem_mem hk)
  have hC:=vZ (s.aj.ns.take k) x (by simp;omega);have htk:s.aj.ns.take (k+1)=s.aj.ns.take k++[x]:=by rw [List.take_succ_eq_append_getElem hk,hx]
  rw [dy hk,<- hx] at hI;rw [<- hx] at hm;simp only [vK] at hI;have hkm:(k+1)*s.book.qs.length=k*s.book.qs.length+s.book.qs.length:=Nat.succ_mul _ _;have hkk:k*s.book.qs.length<=2048*2048:=Nat.mul_le_mul (by omega) (by omega);have hmt:(s.aj.ns.map aq.cells).take k=(s.aj.ns.take k).map aq.cells:=(List.map_take ..).symm;have hkl:(k:Int)<=(s.aj.ns.length:Int):=by omega
  simp only [aq.cells] at hm hC;simp only [go_sem,seval,hdk,hm];(with_reducible and_intros)<;>first|exact .dq|omega|skip
  cases b1:x.cur==c
  ·simp only [b1,Bool.false_and,fY,if_false,List.nil_append] at hI;simp only [go_sem,seval,bne,b1,hwk];refine ah.step L hk ⟨by omega,by rw [htk];exact hI⟩ ?_;simp only [go_sem,seval]
  simp only [go_sem,seval,bne,b1,aG,hmt];(with_reducible and_intros)<;>first|exact .dq|omega|skip
  refine aa.gen [] [] true (by simp) ?_;simp only [go_sem,seval,hmt];refine aY.intro hC ?_;cases b2:rO (s.aj.ns.take k) x.no
  case true =>
   simp only [b1,b2,Bool.not_true,Bool.and_false,fY,if_false,List.nil_append] at hI;simp only [go_sem,seval,hwk];refine ah.step L hk ⟨by omega,by rw [htk];exact hI⟩ ?_;simp only [go_sem,seval]
  simp only [b1,b2,Bool.not_false,Bool.and_self,if_true] at hI;simp only [go_sem,seval,aG];refine aC.walk (S:=Unit) s.book.qs.length [1,2,10,35,36,37,57,58] [48,176,592,944] (fun i _=>[(59,.int .i64 i),(6,.ref 1232)]) (fun i _=>[(1232,.own 2 (kD (Vs++(L++oF x (s.book.qs.take i)))))]) (fun _ _=>True) () trivial ?_ ?_ ?_
  ·simp only [go_sem,seval]<;>simp [oF]
  ·intro i _ hi hdi hwi _;have hmp:=aD (c:=aA.cells) s.book.qs hi;have hs:=KN x s.book.qs hi;have hlen:=yh x (s.book.qs.take i);have hlt:(s.book.qs.take i).length=i:=by simp;omega
   obtain ⟨p,hp⟩:=aL (s.book.qs[i]);have hpr:p.cE:=by rw [hp];exact hr.qs _ (List.getElem_mem hi)
   have hT:=LL x.mult p.cost hxr.2.2.1 hpr.2.2.2;have hwl:(Vs++(L++oF x (s.book.qs.take i))).length<=s.aU.bs.length+(k*s.book.qs.length+i):=by simp;omega
   rw [<- hp] at hmp hs;simp only [aA.cells] at hmp;simp only [go_sem,seval,hdi,hmp];(with_reducible and_intros)<;>first|exact .dq|omega|skip
   cases b3:p.inst==x.no
   ·simp only [b3,fY,if_false] at hs;simp only [go_sem,seval,hwi];refine ah.step () hi trivial ?_;simp only [go_sem,seval,hs]
   simp only [b3,if_true] at hs;simp only [go_sem,seval];refine aa.pure hT ?_;simp only [go_sem,seval,hwi];(with_reducible and_intros)<;>first|exact .dq|omega|skip
   refine ah.step () hi trivial ?_;simp only [go_sem,seval,hs]<;>simp [kD,wd]
  ·intro _ hdx _;have hcl:=yh x s.book.qs;simp only [go_sem,seval,hdx,List.take_length,hwk];refine ah.step (L++oF x s.book.qs) hk ⟨by simp only [List.length_append];omega,by rw [htk,List.append_assoc];exact hI⟩ ?_;simp only [go_sem,seval]
 ·rintro L hdx ⟨_,hI⟩
  simp only [List.drop_length,vK,List.append_nil] at hI;subst hI;simp only [go_sem,seval,hdx];refine aa.gen [] [] true (by simp) ?_;simp only [go_sem,seval];refine aY.intro hS ?_;simp only [go_sem,seval]
theorem jC (s:af) (hm:s.mid) (hq:s.book.qs.length < 2 ^ 11) (hn:s.aj.ns.length < 2 ^ 11) (hr:s.cE):Abs.Spec Tryz.prog 8 [] [.agg s.cells] [] (.bool (ir s)):=by
 have c1:=zM s hm.small;have c2:=fun n=>Eb s n hr (by have:=hm.qs;omega)
 have c3:=fun c=>Spec.F6 (zQ s c [] hr (by have:=hm.bs;omega) (by simp)) (ds':=[.agg s.cells,.int .i64 c,.nil]) (by simp [kX,jg,ints])
 have c4:=fun c=>zD s c hr hm.bs hq hn
 simp only [af.cells] at c1 c2 c3 c4 |-;refine bg 60 1 [.tmp 2] mixed Tryz.func8 ?_;simp only [go_sem,seval];refine aa.pure c1 ?_;cases b1:br s
 ·have e:ir s=false:=by simp [ir,b1]
  simp only [go_sem,seval,e,b1]<;>simp
 have e:ir s=((List.range 8).all (fun i=>qZ s ((i:Int)+1))&&(List.range 3).all (fun c=>mZ s (c:Nat)&&pZ s (c:Nat))):=by simp only [ir,b1,Bool.true_and]
 rw [e];simp only [b1];clear e b1 c1;obtain ⟨A,hA⟩:=aL ((List.range 8).all (fun i=>qZ s ((i:Int)+1)));obtain ⟨B,hB⟩:=aL ((List.range 3).all (fun c=>mZ s (c:Nat)&&pZ s (c:Nat)));rw [<- hA,<- hB];simp only [go_sem,seval];refine aC.walk (S:=Unit) 8 [1] [32] (fun i _=>[(3,.int .i64 ((i:Int)+1))]) (fun i _=>[]) (fun i _=>∀ j < i,qZ s ((j:Int)+1)=true) () (by simp) ?_ ?_ ?_
 ·simp only [go_sem,seval]<;>simp
 ·intro i _ hi _ _ hI;obtain ⟨n,hn⟩:=aL ((i:Int)+1);have hd:decide (n<=8)=true:=decide_eq_true (by omega);have hw:IntKind.wrap .i64 (n+1)=((i+1:Nat):Int)+1:=by rw [bz (by omega) (by omega)];omega
  have hz:=CC (az (bR n s.book.qs))
  have hbad:qZ s n=false->(A&&B)=false:=fun h=>by
   rw [hA,Ku hi (by rw [<- hn];exact h)];rfl
  clear hA hB;have hgood:qZ s n=true->∀ j < i+1,qZ s ((j:Int)+1)=true:=fun h=>lt_next (f:=fun j=>qZ s ((j:Int)+1)) hI (by rw [<- hn];exact h)
  simp only [qZ] at hbad hgood;rw [<- hn];simp only [go_sem,seval,hd];refine aa.pure (c2 n) ?_;cases q2:zF (az (bR n s.book.qs))==0
  ·rw [q2,Bool.false_and] at hz;have:=hbad hz.symm;simp only [go_sem,seval,bne,q2]
   first | exact this.symm | simp only [qZ,this]
  cases q1:zC (az (bR n s.book.qs))==0
  ·rw [q1,Bool.and_false] at hz;have:=hbad hz.symm;simp only [go_sem,seval,bne,q1,q2]
   first | exact this.symm | simp only [qZ,this]
  rw [q1,q2] at hz;simp only [go_sem,seval,bne,q1,q2,hw];refine ah.step () hi (hgood (by rw [<- hz];rfl)) ?_;simp only [go_sem,seval]
 intro _ _ hI;rw [EW (f:=fun i=>qZ s ((i:Int)+1)) hI] at hA;rw [hA,Bool.true_and];clear hI hA;simp only [go_sem,seval];refine aC.walk (S:=Unit) 3 [1] [32] (fun i _=>[(30,.int .i64 i)]) (fun i _=>[]) (fun i _=>∀ j < i,(mZ s (j:Nat)&&pZ s (j:Nat))=true) () (by simp) ?_ ?_ ?_
 ·simp only [go_sem,seval]<;>simp
 ·intro i _ hi hdi hw hI;have hdi:decide ((i:Int) < 3)=true:=hdi;have hz:=CC (az (nP i [] s.aU.bs));have hy:=CC (az (oz i s.aU.bs++BL s.aj i s.book.qs));have hbad:(mZ s (i:Nat)&&pZ s (i:Nat))=false->B=false:=fun h=>by rw [hB];exact Ku hi h
  clear hB;have hgood:(mZ s (i:Nat)&&pZ s (i:Nat))=true->∀ j < i+1,(mZ s (j:Nat)&&pZ s (j:Nat))=true:=fun h=>lt_next (f:=fun j=>mZ s (j:Nat)&&pZ s (j:Nat)) hI h
  simp only [mZ,pZ] at hbad hgood;simp only [go_sem,seval,hdi];refine aa.pure (c3 i) ?_;simp only [go_sem,seval];refine aa.pure (c4 i) ?_;simp only [mZ,pZ];cases q3:zF (az (nP i [] s.aU.bs))==0
  ·rw [q3,Bool.false_and] at hz;have:=hbad (by rw [<- hz];rfl);simp only [go_sem,seval,bne,q3,this]
  cases q4:zF (az (oz i s.aU.bs++BL s.aj i s.book.qs))==0
  ·rw [q4,Bool.false_and] at hy;have:=hbad (by rw [<- hy];simp);simp only [go_sem,seval,bne,q3,q4,this]
  cases q1:zC (az (nP i [] s.aU.bs))==0
  ·rw [q1,Bool.and_false] at hz;have:=hbad (by rw [<- hz];rfl);simp only [go_sem,seval,bne,q1,q3,q4,this]
  cases q2:zC (az (oz i s.aU.bs++BL s.aj i s.book.qs))==0
  ·rw [q2,Bool.and_false] at hy;have:=hbad (by rw [<- hy];simp);simp only [go_sem,seval,bne,q1,q2,q3,q4,this]
  rw [q1,q3] at hz;rw [q2,q4] at hy;simp only [go_sem,seval,bne,q1,q2,q3,q4,hw];refine ah.step () hi ?_ ?_
  ·exact hgood (by rw [<- hz,<- hy];rfl)
  ·simp only [go_sem,seval]
 intro _ hdx hI;have hdx:decide ((3:Int) < 3)=false:=hdx;rw [EW (f:=fun c=>mZ s (c:Nat)&&pZ s (c:Nat)) hI] at hB;rw [hB];simp only [go_sem,seval,hdx]
def DA (l:List ByteArray):List (List D):=l.map fun s=>[.str s]
@[go_sem] theorem abj (l:List ByteArray):(DA l).length=l.length:=by simp [DA]
def Wr (x:ByteArray × Bool):List D:=[.str x.1,.bool x.2]
def Qt (s1 s2 s3 s4 s5 s6 s7 s8 s9 s10 s11 s12 s13:ByteArray) (b1 b2 b3 b4 b5 b6 b7 b8 b9 b10 b11 b12 b13:Bool):List (ByteArray × Bool):=[(s1,b1),(s2,b2),(s3,b3),(s4,b4),(s5,b5),(s6,b6),(s7,b7),(s8,b8),(s9,b9),(s10,b10),(s11,b11),(s12,b12),(s13,b13)]
theorem Va (s1 s2 s3 s4 s5 s6 s7 s8 s9 s10 s11 s12 s13:ByteArray) (b1 b2 b3 b4 b5 b6 b7 b8 b9 b10 b11 b12 b13:Bool):[[D.str s1,D.bool b1],[D.str s2,D.bool b2],[D.str s3,D.bool b3],[D.str s4,D.bool b4],[D.str s5,D.bool b5],[D.str s6,D.bool b6],[D.str s7,D.bool b7],[D.str s8,D.bool b8],[D.str s9,D.bool b9],[D.str s10,D.bool b10],[D.str s11,D.bool b11],[D.str s12,D.bool b12],[D.str s13,D.bool b13]]=(Qt s1 s2 s3 s4 s5 s6 s7 s8 s9 s10 s11 s12 s13 b1 b2 b3 b4 b5 b6 b7 b8 b9 b10 b11 b12 b13).map Wr:=rfl
theorem SB (l:List (ByteArray × Bool)) {i:Nat} (hi:i < l.length):(l.map Wr).getD i []=[.str l[i].1,.bool l[i].2]:=by simp [Wr,hi]
def lq (L:List (ByteArray × Bool)):List ByteArray:=(L.filter fun x=>!x.2).map (·.1)
theorem Oe (L:List (ByteArray × Bool)):(lq L).length<=L.length:=by
 rw [lq,aG];exact List.length_filter_le ..
theorem KJ (L:List (ByteArray × Bool)) {i:Nat} (hi:i < L.length):lq (L.take (i+1))=if L[i].2 then lq (L.take i) else lq (L.take i)++[L[i].1]:=by
 rw [List.take_succ_eq_append_getElem hi,lq,List.filter_append,List.map_append];cases h:L[i].2<;>simp [lq,h]
def parts (a b:af):List (ByteArray × Bool):=Qt ⟨#[67,108,111,99,107]⟩ ⟨#[77,101,109,98,101,114,115]⟩ ⟨#[73,110,115,116,115]⟩ ⟨#[65,115,115,101,116,115]⟩ ⟨#[78,101,120,116]⟩ ⟨#[84,114,97,100,101,115]⟩ ⟨#[80,111,115,115]⟩ ⟨#[76,97,115,116]⟩ ⟨#[66,97,108,97,110,99,101,115]⟩ ⟨#[80,108,101,100,103,101,115]⟩ ⟨#[67,97,108,108,115]⟩ ⟨#[66,105,100,115]⟩ ⟨#[83,101,97,116,115]⟩ (a.now==b.now&&(a.day==b.day&&a.phase==b.phase)) (decide (a.aj.ms=b.aj.ms)) (decide (a.aj.ns=b.aj.ns)) (decide (a.aj.xs=b.aj.xs)) (a.book.next==b.book.next) (decide (a.book.ts=b.book.ts)) (decide (a.book.qs=b.book.qs)) (a.aU.last==b.aU.last) (decide (a.aU.bs=b.aU.bs)) (decide (a.ps=b.ps)) (decide (a.calls=b.calls)) (decide (a.aX=b.aX)) (decide (a.aJ=b.aJ))
theorem wX (a b:af)
  (h1:Abs.Spec Tryz.prog 14 [] [.sl 3 (a.aj.ms.map ak.cells),.sl 3 (b.aj.ms.map ak.cells)] [] (.bool (decide (a.aj.ms=b.aj.ms))))
  (h2:Abs.Spec Tryz.prog 15 [] [.sl 12 (a.aj.ns.map aq.cells),.sl 12 (b.aj.ns.map aq.cells)] [] (.bool (decide (a.aj.ns=b.aj.ns))))
  (h3:Abs.Spec Tryz.prog 16 [] [.sl 4 (a.aj.xs.map av.cells),.sl 4 (b.aj.xs.map av.cells)] [] (.bool (decide (a.aj.xs=b.aj.xs))))
  (h4:Abs.Spec Tryz.prog 17 [] [.sl 7 (a.book.ts.map aI.cells),.sl 7 (b.book.ts.map aI.cells)] [] (.bool (decide (a.book.ts=b.book.ts))))
  (h5:Abs.Spec Tryz.prog 18 [] [.sl 4 (a.book.qs.map aA.cells),.sl 4 (b.book.qs.map aA.cells)] [] (.bool (decide (a.book.qs=b.book.qs))))
  (h6:Abs.Spec Tryz.prog 19 [] [.sl 4 (a.aU.bs.map bp.cells),.sl 4 (b.aU.bs.map bp.cells)] [] (.bool (decide (a.aU.bs=b.aU.bs))))
  (h7:Abs.Spec Tryz.prog 20 [] [.sl 3 (pl a.ps),.sl 3 (pl b.ps)] [] (.bool (decide (a.ps=b.ps))))
  (h8:Abs.Spec Tryz.prog 21 [] [.sl 4 (a.calls.map aB.cells),.sl 4 (b.calls.map aB.cells)] [] (.bool (decide (a.calls=b.calls))))
  (h9:Abs.Spec Tryz.prog 22 [] [.sl 5 (a.aX.map bu.cells),.sl 5 (b.aX.map bu.cells)] [] (.bool (decide (a.aX=b.aX))))
  (h10:Abs.Spec Tryz.prog 23 [] [.sl 7 (a.aJ.map bE.cells),.sl 7 (b.aJ.map bE.cells)] [] (.bool (decide (a.aJ=b.aJ)))) :
  Abs.Spec Tryz.prog 7 [] [.agg a.cells,.agg b.cells] [.own 1 (DA (lq (parts a b)))] (.ref 0):=by
 simp only [af.cells];refine bg 118 2 [.tmp 4] mixed Tryz.func7 ?_;simp only [go_sem,seval];(with_reducible and_intros)<;>first|exact .dq|omega|skip
 simp only [List.append_eq,List.cons_append,List.nil_append];simp only [go_sem,seval];(with_reducible and_intros)<;>first|exact .dq|omega|skip
 refine aa.pure h1 ?_;simp only [go_sem,seval];(with_reducible and_intros)<;>first|exact .dq|omega|skip
 refine aa.pure h2 ?_;simp only [go_sem,seval];(with_reducible and_intros)<;>first|exact .dq|omega|skip
 refine aa.pure h3 ?_;simp only [go_sem,seval];(with_reducible and_intros)<;>first|exact .dq|omega|skip
 refine aa.pure h4 ?_;simp only [go_sem,seval];(with_reducible and_intros)<;>first|exact .dq|omega|skip
 refine aa.pure h5 ?_;simp only [go_sem,seval];(with_reducible and_intros)<;>first|exact .dq|omega|skip
 refine aa.pure h6 ?_;simp only [go_sem,seval];(with_reducible and_intros)<;>first|exact .dq|omega|skip
 refine aa.pure h7 ?_;simp only [go_sem,seval];(with_reducible and_intros)<;>first|exact .dq|omega|skip
 refine aa.pure h8 ?_;simp only [go_sem,seval];(with_reducible and_intros)<;>first|exact .dq|omega|skip
 refine aa.pure h9 ?_;simp only [go_sem,seval];(with_reducible and_intros)<;>first|exact .dq|omega|skip
 refine aa.pure h10 ?_;simp only [go_sem,seval];(with_reducible and_intros)<;>first|exact .dq|omega|skip
 clear h1 h2 h3 h4 h5 h6 h7 h8 h9 h10;rw [Va];generalize hL:Qt _ _ _ _ _ _ _ _ _ _ _ _ _ _ _ _ _ _ _ _ _ _ _ _ _ _=L;have hlen:L.length=13:=by rw [<- hL];rfl
 have hres:lq (parts a b)=lq L:=by rw [<- hL];rfl
 rw [hres];clear hres hL;refine aC.walk (S:=Unit) 13 [102,103] [1648] (fun i _=>[(104,.int .i64 i),(5,.ref 1856)]) (fun i _=>[(1856,.own 1 (DA (lq (L.take i))))]) (fun _ _=>True) () trivial ?_ ?_ ?_
 ·simp only [go_sem,seval]<;>simp [lq,DA]
 ·intro i _ hi hdi hw _;have hdi:decide ((i:Int) < 13)=true:=hdi;have hi2:i < L.length:=by omega
  have hm:=SB L hi2;have hs:=KJ L hi2;have hn:=Oe (L.take i);have hn2:(L.take i).length<=13:=by simp;omega
  have hl1:(i:Int) < 13:=by omega
  obtain ⟨x,hx⟩:=aL (L[i]);rw [<- hx] at hm hs;simp only [go_sem,seval,hdi,hm,aG,hlen];(with_reducible and_intros)<;>first|exact .dq|omega|skip
  cases hb:x.2
  ·rw [hb] at hs;simp only [fY,if_false] at hs;simp only [go_sem,seval,hb,hw];(with_reducible and_intros)<;>first|exact .dq|omega|skip
   refine ah.step () hi trivial ?_;simp only [go_sem,seval,hs]<;>simp [DA]
  ·rw [hb] at hs;simp only [if_true] at hs;simp only [go_sem,seval,hb,hw];refine ah.step () hi trivial ?_;simp only [go_sem,seval,hs]
 ·intro _ hdx _;have hdx:decide ((13:Int) < 13)=false:=hdx;have ht:L.take 13=L:=List.take_of_length_le (by omega);simp only [go_sem,seval,hdx,ht]
theorem sw (a b:af) (h:a.small):Abs.Spec Tryz.prog 7 [] [.agg a.cells,.agg b.cells] [.own 1 (DA (lq (parts a b)))] (.ref 0):=by
 have hr:=h.aj.small;obtain ⟨hr1,hr2,hr3⟩:=h.aj;obtain ⟨hb1,hb2⟩:=h.book;have h1:=BN a.aj.ms b.aj.ms (by omega);have h2:=G8 a.aj.ns b.aj.ns (by omega);have h3:=DR a.aj.xs b.aj.xs (by omega);have h4:=D8 a.book.ts b.book.ts (by omega);have h5:=Jh a.book.qs b.book.qs (by omega);have h6:=J8 a.aU.bs b.aU.bs (by have:=h.aU;omega);have h7:=Le a.ps b.ps (by have:=h.ps;omega);have h8:=GZ a.calls b.calls (by have:=h.calls;omega);have h9:=HS a.aX b.aX (by have:=h.aX;omega);have h10:=CF a.aJ b.aJ (by have:=h.aJ;omega) (fun x hx=>⟨by have:=(h.rs x hx).1;omega,by have:=(h.rs x hx).2;omega⟩);exact wX a b h1 h2 h3 h4 h5 h6 h7 h8 h9 h10
theorem DC:Abs.Spec Tryz.prog 14 [] [.sl 3 [],.sl 3 []] [] (.bool true):=by
 refine bg 26 2 [.tmp 4] mixed Tryz.func14 ?_;simp only [go_sem,seval];refine aC.walk (S:=Unit) 0 [0,1,12] [208] (fun i _=>[(13,.int .i64 i)]) (fun _ _=>[]) (fun _ _=>True) () trivial ?_ ?_ ?_
 ·simp only [go_sem,seval]<;>simp
 ·intro i _ hi;omega
 ·intro _ hdx _;simp only [go_sem,seval,hdx]
theorem JW:Abs.Spec Tryz.prog 15 [] [.sl 12 [],.sl 12 []] [] (.bool true):=by
 refine bg 26 2 [.tmp 4] mixed Tryz.func15 ?_;simp only [go_sem,seval];refine aC.walk (S:=Unit) 0 [0,1,12] [208] (fun i _=>[(13,.int .i64 i)]) (fun _ _=>[]) (fun _ _=>True) () trivial ?_ ?_ ?_
 ·simp only [go_sem,seval]<;>simp
 ·intro i _ hi;omega
 ·intro _ hdx _;simp only [go_sem,seval,hdx]
theorem Gm:Abs.Spec Tryz.prog 16 [] [.sl 4 [],.sl 4 []] [] (.bool true):=by
 refine bg 26 2 [.tmp 4] mixed Tryz.func16 ?_;simp only [go_sem,seval];refine aC.walk (S:=Unit) 0 [0,1,12] [208] (fun i _=>[(13,.int .i64 i)]) (fun _ _=>[]) (fun _ _=>True) () trivial ?_ ?_ ?_
 ·simp only [go_sem,seval]<;>simp
 ·intro i _ hi;omega
 ·intro _ hdx _;simp only [go_sem,seval,hdx]
theorem Gg:Abs.Spec Tryz.prog 17 [] [.sl 7 [],.sl 7 []] [] (.bool true):=by
 refine bg 26 2 [.tmp 4] mixed Tryz.func17 ?_;simp only [go_sem,seval];refine aC.walk (S:=Unit) 0 [0,1,12] [208] (fun i _=>[(13,.int .i64 i)]) (fun _ _=>[]) (fun _ _=>True) () trivial ?_ ?_ ?_
 ·simp only [go_sem,seval]<;>simp
 ·intro i _ hi;omega
 ·intro _ hdx _;simp only [go_sem,seval,hdx]
theorem KP:Abs.Spec Tryz.prog 18 [] [.sl 4 [],.sl 4 []] [] (.bool true):=by
 refine bg 26 2 [.tmp 4] mixed Tryz.func18 ?_;simp only [go_sem,seval];refine aC.walk (S:=Unit) 0 [0,1,12] [208] (fun i _=>[(13,.int .i64 i)]) (fun _ _=>[]) (fun _ _=>True) () trivial ?_ ?_ ?_
 ·simp only [go_sem,seval]<;>simp
 ·intro i _ hi;omega
 ·intro _ hdx _;simp only [go_sem,seval,hdx]
theorem KX:Abs.Spec Tryz.prog 19 [] [.sl 4 [],.sl 4 []] [] (.bool true):=by
 refine bg 26 2 [.tmp 4] mixed Tryz.func19 ?_;simp only [go_sem,seval];refine aC.walk (S:=Unit) 0 [0,1,12] [208] (fun i _=>[(13,.int .i64 i)]) (fun _ _=>[]) (fun _ _=>True) () trivial ?_ ?_ ?_
 ·simp only [go_sem,seval]<;>simp
 ·intro i _ hi;omega
 ·intro _ hdx _;simp only [go_sem,seval,hdx]
theorem OZ:Abs.Spec Tryz.prog 20 [] [.sl 3 [],.sl 3 []] [] (.bool true):=by
 refine bg 26 2 [.tmp 4] mixed Tryz.func20 ?_;simp only [go_sem,seval];refine aC.walk (S:=Unit) 0 [0,1,12] [208] (fun i _=>[(13,.int .i64 i)]) (fun _ _=>[]) (fun _ _=>True) () trivial ?_ ?_ ?_
 ·simp only [go_sem,seval]<;>simp
 ·intro i _ hi;omega
 ·intro _ hdx _;simp only [go_sem,seval,hdx]
theorem IC:Abs.Spec Tryz.prog 21 [] [.sl 4 [],.sl 4 []] [] (.bool true):=by
 refine bg 26 2 [.tmp 4] mixed Tryz.func21 ?_;simp only [go_sem,seval];refine aC.walk (S:=Unit) 0 [0,1,12] [208] (fun i _=>[(13,.int .i64 i)]) (fun _ _=>[]) (fun _ _=>True) () trivial ?_ ?_ ?_
 ·simp only [go_sem,seval]<;>simp
 ·intro i _ hi;omega
 ·intro _ hdx _;simp only [go_sem,seval,hdx]
theorem KT:Abs.Spec Tryz.prog 22 [] [.sl 5 [],.sl 5 []] [] (.bool true):=by
 refine bg 26 2 [.tmp 4] mixed Tryz.func22 ?_;simp only [go_sem,seval];refine aC.walk (S:=Unit) 0 [0,1,12] [208] (fun i _=>[(13,.int .i64 i)]) (fun _ _=>[]) (fun _ _=>True) () trivial ?_ ?_ ?_
 ·simp only [go_sem,seval]<;>simp
 ·intro i _ hi;omega
 ·intro _ hdx _;simp only [go_sem,seval,hdx]
theorem Io:Abs.Spec Tryz.prog 31 [] [.sl 7 [],.sl 7 [],.fn 32 []] [] (.bool true):=by
 refine bg 32 3 [.tmp 6] mixed Tryz.func31 ?_;simp only [go_sem,seval];refine aC.walk (S:=Unit) 0 [1,2,15,16] [272] (fun i _=>[(17,.int .i64 i)]) (fun _ _=>[]) (fun _ _=>True) () trivial ?_ ?_ ?_
 ·simp only [go_sem,seval]<;>simp
 ·intro i _ hi;omega
 ·intro _ hdx _;simp only [go_sem,seval,hdx]
theorem DB:Abs.Spec Tryz.prog 23 [] [.sl 7 [],.sl 7 []] [] (.bool true):=by
 refine bg 8 2 [.tmp 4] mixed Tryz.func23 ?_;simp only [go_sem,seval];(with_reducible and_intros)<;>first|exact .dq|omega|skip
 refine aa.pure Io ?_;simp only [go_sem,seval]
def qC (n:Int):af:=⟨n,0,0,⟨[],[],[]⟩,⟨0,[],[]⟩,⟨0,[]⟩,[],[],[],[]⟩
theorem Nn {n:Int} (h:eW n):(qC n).cE:=by
 have h0:eW 0:=⟨by decide,by decide⟩
 refine ⟨h,h0,h0,?_,?_,?_,h0,?_,?_,h0,?_,?_,?_,?_,?_⟩<;>simp [qC]
theorem Og (n:Int):(qC n).mid:=by
 refine ⟨⟨⟨?_,?_,?_⟩,⟨?_,?_⟩,?_,?_,?_,?_,?_,?_⟩,?_,?_,?_⟩<;>simp [qC]
theorem LP:ir (qC 0)=true:=by kernel_rfl
theorem Od:lq (parts (qC 0) (qC 1))=[⟨#[67,108,111,99,107]⟩]:=by kernel_rfl
theorem Hw:Abs.Spec Tryz.prog 6 [] [] [] (.bool true):=by
 have h1:=wX (qC 0) (qC 1) DC JW Gm Gg KP KX OZ IC KT DB;have h2:=jC (qC 0) (Og 0) (by simp [qC]) (by simp [qC]) (Nn ⟨by decide,by decide⟩);rw [Od] at h1;rw [LP] at h2;simp only [af.cells,qC,List.map_nil] at h1 h2
 replace h1:=Spec.F6 h1 (ds':=[.agg [.int .i64 0,.int .i64 0,.int .i64 0,.nil,.nil,.nil,.int .i64 0,.nil,.nil,.int .i64 0,.nil,.nil,.nil,.nil,.nil],.agg [.int .i64 1,.int .i64 0,.int .i64 0,.nil,.nil,.nil,.int .i64 0,.nil,.nil,.int .i64 0,.nil,.nil,.nil,.nil,.nil]]) (by simp [kX,jg,pl])
 replace h2:=Spec.F6 h2 (ds':=[.agg [.int .i64 0,.int .i64 0,.int .i64 0,.nil,.nil,.nil,.int .i64 0,.nil,.nil,.int .i64 0,.nil,.nil,.nil,.nil,.nil]]) (by simp [kX,jg,pl])
 refine bg 19 0 [.tmp 0] mixed Tryz.func6 ?_;simp only [go_sem,seval];refine aa.gen [] [] false (by simp) ?_;simp only [go_sem,seval];refine aY.intro h1 ?_;simp only [go_sem,seval,DA,List.map_cons,List.map_nil,List.length_cons,List.length_nil];refine aa.pure h2 ?_;simp only [go_sem,seval]
@[reducible] def ahK (x:Int):List D:=[.int .i64 x]
theorem abC (n0 n1 n2 n3 n4:Int) (r0 r1 r2 r3 r4 r5 r6 r7 r8 r9:List (List D)):(dN [0,1,2,3,4,5,6,7,8,9] (sq [(0,.agg [.int .i64 n0,.int .i64 n1,.int .i64 n2,.ref 0,.ref 1,.ref 2,.int .i64 n3,.ref 3,.ref 4,.int .i64 n4,.ref 5,.ref 6,.ref 7,.ref 8,.ref 9])] (qI 0 [.own 3 r0,.own 12 r1,.own 4 r2,.own 7 r3,.own 4 r4,.own 4 r5,.own 3 r6,.own 4 r7,.own 5 r8,.own 7 r9]))).t 0=.agg [.int .i64 n0,.int .i64 n1,.int .i64 n2,.sl 3 r0,.sl 12 r1,.sl 4 r2,.int .i64 n3,.sl 7 r3,.sl 4 r4,.int .i64 n4,.sl 4 r5,.sl 3 r6,.sl 4 r7,.sl 5 r8,.sl 7 r9]:=by
 kernel_rfl
theorem Xp (d:D) (r0 r1 r2 r3 r4 r5 r6 r7 r8 r9:List (List D)) (r:Nat):(dN [0,1,2,3,4,5,6,7,8,9] (sq [(0,d)] (qI 0 [.own 3 r0,.own 12 r1,.own 4 r2,.own 7 r3,.own 4 r4,.own 4 r5,.own 3 r6,.own 4 r7,.own 5 r8,.own 7 r9]))).o r=[].getD r .undef:=by
 rcases r with _ | _ | _ | _ | _ | _ | _ | _ | _ | _ | r<;>kernel_rfl
theorem aP (s:af) (hs:s.small):Abs.Spec Tryz.prog 5 [] [.agg s.cells] [] (.agg s.cells):=by
 have h:=kj s hs;simp only [Ep,yg] at h;simp only [af.cells];simp only [af.cells] at h;exact Spec.frozen h [0,1,2,3,4,5,6,7,8,9] (abC ..) (fun r=>Xp ..)
end Go.Proofs.YtnkobepdbkmedaaGreat
