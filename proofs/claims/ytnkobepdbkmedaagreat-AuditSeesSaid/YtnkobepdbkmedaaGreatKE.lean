/- Sums of quantities, of money, and what follows. No theorem of a claim. -/
import Derived.Test.YtnkobepdbkmedaaGreatKD
set_option linter.unusedSimpArgs false
set_option linter.unusedVariables false
set_option maxHeartbeats 4000000
set_option maxRecDepth 16000
namespace Go.Proofs.YtnkobepdbkmedaaGreat
open Go.Abs
def Ag (S:Int):Int:=if bP S then S else 0
def Av (S:Int):Int:=if bP S then 0 else 1
theorem SP {S:Int} (h:oY S=false):bP S=false:=by
 cases hb:bP S
 ·rfl
 ·have:=cm.1 hb;have h2:oY S=true:=by simp only [oY,bW,decide_eq_true_eq];omega
  rw [h] at h2;cases h2
theorem pF (l:List Int) (hl:l.length < 2 ^ 58) (hr:∀ n∈l,oY n=true):Abs.Spec Tryz.prog 44 [] [.sl 2 (kf l)] [] (.bH [.int .i64 (Ag (az l)),.int .i64 (Av (az l))]):=by
 have hs:=Hj l (by omega) hr;have hI:=GG (az l);refine bg 18 1 [.tmp 2,.tmp 3] mixed Tryz.func44 ?_;cases h2:oY (az l)
 ·have hR:=SP h2;have hz:wd 0=[.int .i64 0,.int .u64 0]:=rfl;rw [h2] at hs;simp only [fZ,if_false,hz] at hs;have e1:Ag (az l)=0:=by simp [Ag,hR]
  have e2:Av (az l)=1:=by simp [Av,hR]
  rw [e1,e2];simp only [go_sem,seval];refine aa.gen [] [] true (by simp) ?_;simp only [go_sem,seval];refine aY.intro hs ?_;simp only [go_sem,seval]
 ·rw [h2] at hs;simp only [if_true] at hs;simp only [wd] at hs hI;simp only [go_sem,seval];refine aa.gen [] [] true (by simp) ?_;simp only [go_sem,seval];refine aY.intro hs ?_;simp only [go_sem,seval];refine aa.pure hI ?_;simp only [go_sem,seval,Ag,Av]
theorem GV {n:Int} (h:eT n):oY n=true:=sY (B:=9223372036854775808) ⟨h.1,by have:=h.2;omega⟩ (by omega)
theorem DS (s:af) (n:Int) (hr:s.cE) (hl:s.book.qs.length < 2 ^ 30):Abs.Spec Tryz.prog 25 [] [.agg s.cells,.int .i64 n] [] (.bH [.int .i64 (Ag (az (bR n s.book.qs))),.int .i64 (Av (az (bR n s.book.qs)))]):=by
 have hq:=nD n s.book.qs;have hS:=pF (bR n s.book.qs) (by omega) (fun q hq=>GV (Fy hr.qs q hq));simp only [af.cells];refine bg 33 2 [.tmp 4,.tmp 5] mixed Tryz.func25 ?_;simp only [go_sem,seval,aG];refine aC.walk (S:=Unit) s.book.qs.length [1,11,12] [48,208] (fun i _=>[(13,.int .i64 i),(6,.ref 448)]) (fun i _=>[(448,.own 2 (kf (bR n (s.book.qs.take i))))]) (fun _ _=>True) () trivial ?_ ?_ ?_
 ·simp only [go_sem,seval]<;>simp [bR,kf]
 ·intro i _ hi hdi hwi _;have hm:=aD (c:=aA.cells) s.book.qs hi;have hs:=u5 n s.book.qs hi;have hlen:=nD n (s.book.qs.take i);have hlt:(s.book.qs.take i).length=i:=by simp;omega
  have hO:=oH s.book.qs[i].aV (hr.qs _ (List.getElem_mem hi)).2.2.1;simp only [aA.cells] at hm;simp only [wd] at hO;simp only [go_sem,seval,hdi,hm];(with_reducible and_intros)<;>first|exact .dq|omega|skip
  cases hb:s.book.qs[i].inst==n
  ·simp only [hb,fZ,if_false] at hs;simp only [go_sem,seval,hwi];refine ah.step () hi trivial ?_;simp only [go_sem,seval,hs]
  ·simp only [hb,if_true] at hs;simp only [go_sem,seval];refine aa.pure hO ?_;have hwl:(kf (bR n (s.book.qs.take i))).length<=i:=by simp [kf];omega
   simp only [go_sem,seval,hwi];(with_reducible and_intros)<;>first|exact .dq|omega|skip
   refine ah.step () hi trivial ?_;simp only [go_sem,seval,hs]<;>simp [kf,wd]
 ·intro _ hdx _;simp only [go_sem,seval,hdx,List.take_length];refine aa.gen [] [] true (by simp) ?_;simp only [go_sem,seval];refine aY.intro hS ?_;simp only [go_sem,seval]
theorem KK (ks:List Int) (k:Int) (hl:ks.length < 2 ^ 62):Abs.Spec Tryz.prog 107 [] [.sl 1 (ints ks),.int .i64 k] [] (.int .i64 (fU id k ks)):=by
 refine bg 19 2 [.tmp 4] mixed Tryz.func107 ?_;simp only [go_sem,seval,ay];refine aC.walk (S:=Unit) ks.length [0,1,7] [] (fun i _=>[(8,.int .i64 i)]) (fun i _=>[]) (fun i _=>∀ j (hj:j < ks.length),j < i->id ks[j]≠k) () (by intros;omega) ?_ ?_ ?_
 ·simp only [go_sem,seval]<;>simp
 ·intro i _ hi hdi hw hI;have hli:(i:Int) < (ks.length:Int):=by omega
  simp only [go_sem,seval,hdi,ay,ints_at ks hi];(with_reducible and_intros)<;>first|exact .dq|omega|skip
  cases hb:k==ks[i]
  ·have hb2:id ks[i]≠k:=fun h=>by simp only [id] at h;rw [h] at hb;simp at hb
   simp only [go_sem,seval,hw];refine ah.step () hi ?_ ?_
   ·intro j hj hji;rcases Nat.lt_or_ge j i with h | h
    ·exact hI j hj h
    ·obtain rfl:j=i:=by omega
     exact hb2
   ·simp only [go_sem,seval]
  ·have hb2:id ks[i]=k:=by simp only [id];have:=LD hb;omega
   obtain ⟨g1,g2⟩:=gX (z:=(0:Int)) hi hI hb2;rw [g2];simp only [go_sem,seval]
 ·intro _ hdx hI;obtain ⟨g1,g2⟩:=fS (z:=(0:Int)) (fun j hj=>hI j hj hj);rw [g2];simp only [go_sem,seval,hdx]
theorem ng {A:Type} {no:A->Int} {n:Int}:∀ {xs:List A},decide (0<=fU no n xs)=xs.any (fun x=>no x==n)
 | []=>by simp [fU]
 | x :: r=>by
  have ih:=ng (no:=no) (n:=n) (xs:=r);rw [Bool.eq_iff_iff,decide_eq_true_iff] at ih |-;rw [List.any_cons,Bool.or_eq_true,<- ih,beq_iff_eq];simp only [fU];split
  ·simp [*]
  ·rename_i h1;split
   ·exact ⟨fun h=>by omega,fun h=>by rcases h with h | h;exact (h1 h).elim;omega⟩
   ·exact ⟨fun _=>.inr (by omega),fun h=>by omega⟩
theorem Ec (ks:List Int) (k:Int) (hl:ks.length < 2 ^ 62):Abs.Spec Tryz.prog 45 [] [.sl 1 (ints ks),.int .i64 k] [] (.bool (qF ks k)):=by
 have h:=KK ks k hl;have e:decide (0<=fU id k ks)=qF ks k:=by rw [ng];rfl
 refine bg 9 2 [.tmp 4] mixed Tryz.func45 ?_;simp only [go_sem,seval];refine aa.pure h ?_;simp only [go_sem,seval,e]
def Ic (ks:List Int) (k:Int):Bool:=decide (ks.length=0)||qF ks k
def nF (c:Int) (ks:List Int) (bs:List bp):List Int:=(bs.filter fun b=>b.cur==c&&Ic ks b.kind).map bp.sum
theorem Nj (c:Int) (ks:List Int) (bs:List bp) {i:Nat} (h:i < bs.length):nF c ks (bs.take (i+1))=if bs[i].cur==c&&Ic ks bs[i].kind then nF c ks (bs.take i)++[bs[i].sum] else nF c ks (bs.take i):=by
 simp only [nF];rw [List.take_succ_eq_append_getElem h,List.filter_append,List.map_append];cases hb:(bs[i].cur==c&&Ic ks bs[i].kind)<;>simp [List.filter,hb]
theorem IX (c:Int) (ks:List Int) (bs:List bp):(nF c ks bs).length<=bs.length:=by
 simp only [nF,aG];exact List.length_filter_le _ _
theorem PN {c:Int} {ks:List Int} {bs:List bp} (h:∀ b∈bs,b.cE):∀ n∈nF c ks bs,eT n:=by
 intro n hn;simp only [nF,List.mem_map,List.mem_filter] at hn;obtain ⟨b,⟨hb,_⟩,rfl⟩:=hn;exact (h b hb).2.2.2
theorem zY (s:af) (c:Int) (ks:List Int) (hr:s.cE) (hl:s.aU.bs.length < 2 ^ 30) (hk:ks.length < 2 ^ 30):Abs.Spec Tryz.prog 26 [] [.agg s.cells,.int .i64 c,.sl 1 (ints ks)] [] (.bH [.int .i64 (Ag (az (nF c ks s.aU.bs))),.int .i64 (Av (az (nF c ks s.aU.bs)))]):=by
 have hq:=IX c ks s.aU.bs;have hS:=pF (nF c ks s.aU.bs) (by omega) (fun q hq=>GV (PN hr.bs q hq));simp only [af.cells];refine bg 47 3 [.tmp 6,.tmp 7] mixed Tryz.func26 ?_;simp only [go_sem,seval,aG];refine aC.walk (S:=Unit) s.aU.bs.length [1,2,13,14] [64,240] (fun i _=>[(15,.int .i64 i),(8,.ref 672)]) (fun i _=>[(672,.own 2 (kf (nF c ks (s.aU.bs.take i))))]) (fun _ _=>True) () trivial ?_ ?_ ?_
 ·simp only [go_sem,seval]<;>simp [nF,kf]
 ·intro i _ hi hdi hwi _;have hm:=aD (c:=bp.cells) s.aU.bs hi;have hs:=Nj c ks s.aU.bs hi;have hlen:=IX c ks (s.aU.bs.take i);have hlt:(s.aU.bs.take i).length=i:=by simp;omega
  obtain ⟨z,hz⟩:=aL (s.aU.bs[i]);have hO:=oH z.sum (by rw [hz];exact (hr.bs _ (List.getElem_mem hi)).2.2.2);have hC:=Ec ks z.kind (by omega);have hwl:(kf (nF c ks (s.aU.bs.take i))).length<=i:=by simp [kf];omega
  rw [<- hz] at hm hs;simp only [bp.cells] at hm;simp only [wd] at hO;simp only [go_sem,seval,hdi,hm];(with_reducible and_intros)<;>first|exact .dq|omega|skip
  cases b1:z.cur==c
  ·simp only [b1,Bool.false_and,fZ,if_false] at hs;simp only [go_sem,seval,hwi];refine ah.step () hi trivial ?_;simp only [go_sem,seval,hs]
  cases b2:decide (ks.length=0)
  case true =>
   have b2':((ks.length:Int)==0)=true:=by rw [beq_iff_eq];have:=of_decide_eq_true b2;omega
   simp only [b1,Ic,b2,Bool.true_or,Bool.and_self,if_true] at hs;simp only [go_sem,seval,ay,b2'];refine aa.pure hO ?_;simp only [go_sem,seval,hwi];(with_reducible and_intros)<;>first|exact .dq|omega|skip
   refine ah.step () hi trivial ?_;simp only [go_sem,seval,hs]<;>simp [kf,wd]
  have b2':((ks.length:Int)==0)=false:=by rw [beq_eq_false_iff_ne];have:=of_decide_eq_false b2;omega
  simp only [go_sem,seval,ay,b2'];refine aa.pure hC ?_;cases b3:qF ks z.kind
  ·simp only [b1,Ic,b2,b3,Bool.or_self,Bool.and_false,fZ,if_false] at hs;simp only [go_sem,seval,hwi];refine ah.step () hi trivial ?_;simp only [go_sem,seval,hs]
  ·simp only [b1,Ic,b2,b3,Bool.false_or,Bool.and_self,if_true] at hs;simp only [go_sem,seval];refine aa.pure hO ?_;simp only [go_sem,seval,hwi];(with_reducible and_intros)<;>first|exact .dq|omega|skip
   refine ah.step () hi trivial ?_;simp only [go_sem,seval,hs]<;>simp [kf,wd]
 ·intro _ hdx _;simp only [go_sem,seval,hdx,List.take_length];refine aa.gen [] [] true (by simp) ?_;simp only [go_sem,seval];refine aY.intro hS ?_;simp only [go_sem,seval]
def isVar (c:Int) (b:bp):Bool:=b.kind==5&&(b.who==0&&b.cur==c)
def ou (c:Int) (bs:List bp):List Int:=(bs.filter (isVar c)).map bp.sum
theorem NG (c:Int) (bs:List bp) {i:Nat} (h:i < bs.length):ou c (bs.take (i+1))=if isVar c bs[i] then ou c (bs.take i)++[bs[i].sum] else ou c (bs.take i):=by
 simp only [ou];rw [List.take_succ_eq_append_getElem h,List.filter_append,List.map_append];cases hb:isVar c bs[i]<;>simp [List.filter,hb]
theorem Jf (c:Int) (bs:List bp):(ou c bs).length<=bs.length:=by
 simp only [ou,aG];exact List.length_filter_le _ _
theorem Qh {c:Int} {bs:List bp} (h:∀ b∈bs,b.cE):∀ n∈ou c bs,eT n:=by
 intro n hn;simp only [ou,List.mem_map,List.mem_filter] at hn;obtain ⟨b,⟨hb,_⟩,rfl⟩:=hn;exact (h b hb).2.2.2
def oT (x:au) (qs:List aA):List Int:=(qs.filter fun p=>p.inst==x.no).map fun p=>x.mult*p.cost
theorem KJ (x:au) (qs:List aA) {i:Nat} (h:i < qs.length):oT x (qs.take (i+1))=if qs[i].inst==x.no then oT x (qs.take i)++[x.mult*qs[i].cost] else oT x (qs.take i):=by
 simp only [oT];rw [List.take_succ_eq_append_getElem h,List.filter_append,List.map_append];cases hb:(qs[i].inst==x.no)<;>simp [List.filter,hb]
theorem xT (x:au) (qs:List aA):(oT x qs).length<=qs.length:=by
 simp only [oT,aG];exact List.length_filter_le _ _
def rU (l:List au) (n:Int):Bool:=l.any fun x=>x.no==n
def vp (c:Int) (qs:List aA):List au->List au->List Int
 | _,[]=>[]
 | seen,x :: r=>(if x.cur==c&&!rU seen x.no then oT x qs else [])++vp c qs (seen++[x]) r
def Vb (r:aq) (c:Int) (p:aA):Int:=if aZ r p.inst&&(aT r p.inst).cur==c then (aT r p.inst).mult*p.cost else 0
def BV (r:aq) (c:Int) (qs:List aA):List Int:=(qs.filter fun p=>aZ r p.inst&&(aT r p.inst).cur==c).map fun p=>(aT r p.inst).mult*p.cost
theorem vD {A:Type} (h:A->Bool) (v:A->Int):∀ l:List A,az ((l.filter h).map v)=az (l.map fun a=>if h a then v a else 0)
 | []=>rfl
 | a :: l=>by
  have ih:=vD h v l;cases hb:h a<;>simp only [List.filter,hb,List.map_cons,az,ih,if_true,fZ,if_false]<;>omega
theorem sum_add {A:Type} (f g k:A->Int) (h:∀ a,k a=f a+g a):∀ l:List A,az (l.map k)=az (l.map f)+az (l.map g)
 | []=>rfl
 | a :: l=>by
  have ih:=sum_add f g k h l;simp only [List.map_cons,az,ih,h a];omega
theorem BX {A:Type} (f:A->Int) (h:∀ a,f a=0):∀ l:List A,az (l.map f)=0
 | []=>rfl
 | a :: l=>by simp only [List.map_cons,az,BX f h l,h a];omega
def Qd (c:Int) (seen ns:List au) (p:aA):Int:=
 if rU seen p.inst then 0 else if decide (0<=fU au.no p.inst ns)&&(eR au.no p.inst au.zero ns).cur==c then (eR au.no p.inst au.zero ns).mult*p.cost else 0
theorem cU:∀ l m:List Int,az (l++m)=az l+az m
 | [],m=>by simp [az]
 | x :: l,m=>by simp only [List.cons_append,az,cU l m];omega
theorem JD (c:Int) (qs:List aA):∀ (ns seen:List au),az (vp c qs seen ns)=az (qs.map (Qd c seen ns))
 | [],seen=>by
  rw [BX]
  ·rfl
  ·intro p;simp [Qd,fU]
 | x :: r,seen=>by
  have ih:=JD c qs r (seen++[x]);simp only [vp];rw [cU,ih]
  have hA:az (if (x.cur==c&&!rU seen x.no)=true then oT x qs else [])=az (qs.map fun p=>if x.cur==c&&!rU seen x.no&&p.inst==x.no then x.mult*p.cost else 0):=by
   cases hb:(x.cur==c&&!rU seen x.no)
   ·rw [BX]
    ·rfl
    ·intro p;simp
   ·simp only [if_true,oT,Bool.true_and];rw [vD]
  rw [hA,<- sum_add (k:=Qd c seen (x :: r))];intro p;have hs:rU (seen++[x]) p.inst=(rU seen p.inst||x.no==p.inst):=by simp [rU]
  by_cases he:x.no=p.inst
  ·have e1:(x.no==p.inst)=true:=by simpa using he
   have e2:(p.inst==x.no)=true:=by simp [he]
   have e3:fU au.no p.inst (x :: r)=0:=by simp [fU,he]
   have e4:eR au.no p.inst au.zero (x :: r)=x:=by simp [eR,he]
   simp only [Qd,hs,e1,e2,e3,e4,Bool.or_true,if_true,he];cases rU seen p.inst<;>cases (x.cur==c)<;>simp
  ·have e1:(x.no==p.inst)=false:=by simpa using he
   have e2:(p.inst==x.no)=false:=by simp;omega
   have e4:eR au.no p.inst au.zero (x :: r)=eR au.no p.inst au.zero r:=by simp [eR,he]
   have e3:decide (0<=fU au.no p.inst (x :: r))=decide (0<=fU au.no p.inst r):=by
    rw [ng,ng,List.any_cons,e1,Bool.false_or]
   simp only [Qd,hs,e1,e2,e3,e4,Bool.or_false,Bool.and_false,fZ,if_false,Int.zero_add]
theorem V3 (r:aq) (c:Int) (qs:List aA):az (vp c qs [] r.ns)=az (BV r c qs):=by
 rw [JD,BV,vD];congr 1
theorem RY {a b:Int} (ha:eT a) (hb:eT b):oY (a*b)=true:=by
 have h:=eU (a:=a) (b:=b) (A:=9223372036854775808) (B:=9223372036854775808) ⟨ha.1,by have:=ha.2;omega⟩ ⟨hb.1,by have:=hb.2;omega⟩;exact sY h (by omega)
theorem Jt {c:Int} {qs:List aA} (hq:∀ p∈qs,p.cE):∀ (ns seen:List au),(∀ x∈ns,x.cE)->∀ n∈vp c qs seen ns,oY n=true
 | [],_,_,n,hn=>by cases hn
 | x :: r,seen,h,n,hn=>by
  simp only [vp,List.mem_append] at hn;rcases hn with hn | hn
  ·split at hn
   ·simp only [oT,List.mem_map,List.mem_filter] at hn;obtain ⟨p,⟨hp,_⟩,rfl⟩:=hn;exact RY (h x (by simp)).2.2.1 (hq p hp).2.2.2
   ·cases hn
  ·exact Jt hq r _ (fun y hy=>h y (by simp [hy])) n hn
theorem H9 {c:Int} {qs:List aA}:∀ (ns seen:List au),(vp c qs seen ns).length<=ns.length*qs.length
 | [],_=>by simp [vp]
 | x :: r,seen=>by
  have ih:=H9 (c:=c) (qs:=qs) r (seen++[x]);simp only [vp,List.length_append,List.length_cons,Nat.succ_mul];have:=xT x qs;split<;>simp<;>omega
def ak.zero:ak:=⟨0,0,0⟩
theorem Af (xs:List ak) (n:Int) (hl:xs.length < 2 ^ 62):Abs.Spec Tryz.prog 160 [] [.sl 3 (xs.map ak.cells),.fn 74 [],.int .i64 n] [] (.bH [.agg (eR ak.no n ak.zero xs).cells,.int .i64 (fU ak.no n xs)]):=by
 refine bg 27 3 [.cell 6 79,.tmp 7] mixed Tryz.func160 ?_;simp only [go_sem,seval,aG];refine aC.walk (S:=Unit) xs.length [1,2,6,11,12] [112,208] (fun i _=>[(13,.int .i64 i)]) (fun i _=>[]) (fun i _=>∀ j (hj:j < xs.length),j < i->xs[j].no≠n) () (by intros;omega) ?_ ?_ ?_
 ·simp only [go_sem,seval]<;>simp
 ·intro i _ hi hdi hw hI;have hm:=aD (c:=ak.cells) xs hi;have hno:=pO xs[i];simp only [ak.cells] at hm hno |-;simp only [go_sem,seval,hdi,hm];(with_reducible and_intros)<;>first|exact .dq|omega|skip
  refine aa.pure hno ?_;cases hb:xs[i].no==n
  ·have hb2:xs[i].no≠n:=by simpa using hb
   simp only [go_sem,seval,hb,hw];refine ah.step () hi ?_ ?_
   ·intro j hj hji;rcases Nat.lt_or_ge j i with h | h
    ·exact hI j hj h
    ·obtain rfl:j=i:=by omega
     exact hb2
   ·simp only [go_sem,seval]
  ·have hb2:xs[i].no=n:=by simpa using hb
   obtain ⟨g1,g2⟩:=gX (z:=ak.zero) hi hI hb2;rw [g1,g2];simp only [go_sem,seval,hb]
 ·intro _ hdx hI;obtain ⟨g1,g2⟩:=fS (z:=ak.zero) (fun j hj=>hI j hj hj);rw [g1,g2];simp only [go_sem,seval,hdx,ak.cells,ak.zero]
def ff (r:aq) (n:Int):ak:=eR ak.no n ak.zero r.ms
def eI (r:aq) (n:Int):Bool:=decide (0<=fU ak.no n r.ms)
def bB (r:aq) (n:Int):Int:=(ff r n).state
theorem Au (r:aq) (n:Int) (hl:r.small):Abs.Spec Tryz.prog 98 [] [.agg r.cells,.int .i64 n] [] (.bH [.agg (ff r n).cells,.bool (eI r n)]):=by
 have h:=Af r.ms n (by have:=hl.1;omega);obtain ⟨g,hg⟩:=aL (eR ak.no n ak.zero r.ms);simp only [ff,eI];rw [<- hg] at h |-;simp only [ak.cells] at h |-;simp only [aq.cells];refine bg 18 2 [.cell 4 79,.tmp 5] mixed Tryz.func98 ?_;simp only [go_sem,seval];refine aa.pure h ?_;simp only [go_sem,seval]
theorem tB (s:af) (n:Int) (hl:s.aj.small):Abs.Spec Tryz.prog 97 [] [.int .i64 n,.bF s.cells] [] (.int .i64 (bB s.aj n)):=by
 have h:=Au s.aj n hl;simp only [bB];obtain ⟨g,hg⟩:=aL (ff s.aj n);rw [<- hg] at h |-;simp only [aq.cells,ak.cells] at h;simp only [af.cells];refine bg 15 2 [.tmp 3] mixed Tryz.func97 ?_;simp only [go_sem,seval];(with_reducible and_intros)<;>first|exact .dq|omega|skip
 refine aa.pure h ?_;simp only [go_sem,seval]
theorem Iv (s:af) (n:Int) (hl:s.aj.small):Abs.Spec Tryz.prog 99 [] [.int .i64 n,.bF s.cells] [] (.bool (aZ s.aj n)):=by
 have h:=Eh s.aj n hl;obtain ⟨g,hg⟩:=aL (aT s.aj n);rw [<- hg] at h;simp only [aq.cells,au.cells] at h;simp only [af.cells];refine bg 14 2 [.tmp 3] mixed Tryz.func99 ?_;simp only [go_sem,seval];(with_reducible and_intros)<;>first|exact .dq|omega|skip
 refine aa.pure h ?_;simp only [go_sem,seval]
def uJ (r:aq) (n:Int):Bool:=bB r n==1||bB r n==2
theorem Je (s:af) (n:Int) (hl:s.aj.small):Abs.Spec Tryz.prog 101 [] [.int .i64 n,.bF [.fn 97 [.bF s.cells]]] [] (.bool (uJ s.aj n)):=by
 have h:=tB s n hl;simp only [af.cells] at h |-;refine bg 14 2 [.tmp 3] mixed Tryz.func101 ?_;simp only [go_sem,seval];(with_reducible and_intros)<;>first|exact .dq|omega|skip
 refine aa.pure h ?_;cases b1:bB s.aj n==1
 ·simp only [go_sem,seval,b1];(with_reducible and_intros)<;>first|exact .dq|omega|skip
  refine aa.pure h ?_;simp only [go_sem,seval,uJ,b1,Bool.false_or]
 ·simp only [go_sem,seval,uJ,b1,Bool.true_or]
theorem Jl (s:af) (c:aB) (hl:s.aj.small):Abs.Spec Tryz.prog 104 [] [.agg c.cells,.bF [.fn 97 [.bF s.cells]]] [] (.bool (!(bB s.aj c.who==1))):=by
 have h:=tB s c.who hl;simp only [af.cells] at h |-;simp only [aB.cells];refine bg 10 2 [.tmp 3] mixed Tryz.func104 ?_;simp only [go_sem,seval];(with_reducible and_intros)<;>first|exact .dq|omega|skip
 refine aa.pure h ?_;simp only [go_sem,seval,bne]
theorem Dc (s:af) (cs:List aB) (hl:s.aj.small) (hc:cs.length < 2 ^ 60):Abs.Spec Tryz.prog 163 [] [.sl 4 (cs.map aB.cells),.fn 104 [.bF [.fn 97 [.bF s.cells]]]] [] (.int .i64 (fU (fun c:aB=>if bB s.aj c.who==1 then 0 else 1) 1 cs)):=by
 have h:=fun c=>Jl s c hl
 simp only [af.cells,aB.cells] at h |-;refine bg 19 2 [.tmp 4] mixed Tryz.func163 ?_;simp only [go_sem,seval,aG];refine aC.walk (S:=Unit) cs.length [0,1,7] [] (fun i _=>[(8,.int .i64 i)]) (fun i _=>[]) (fun i _=>∀ j (hj:j < cs.length),j < i->(if bB s.aj cs[j].who==1 then (0:Int) else 1)≠1) () (by intros;omega) ?_ ?_ ?_
 ·simp only [go_sem,seval]<;>simp
 ·intro i _ hi hdi hw hI;have hm:=aD (c:=aB.cells) cs hi;have hli:(i:Int) < (cs.length:Int):=by omega
  have hc:=h cs[i];simp only [aB.cells] at hm;simp only [go_sem,seval,hdi,aG,hm];(with_reducible and_intros)<;>first|exact .dq|omega|skip
  refine aa.pure hc ?_;cases hb:bB s.aj cs[i].who==1
  ·obtain ⟨g1,g2⟩:=gX (no:=fun c:aB=>if bB s.aj c.who==1 then (0:Int) else 1) (n:=1) (z:=(⟨0,0,0,0⟩:aB)) hi hI (by simp [hb]);rw [g2];simp only [go_sem,seval,hb]
  ·simp only [go_sem,seval,hb,hw];refine ah.step () hi ?_ ?_
   ·intro j hj hji;rcases Nat.lt_or_ge j i with h | h
    ·exact hI j hj h
    ·obtain rfl:j=i:=by omega
     simp [hb]
   ·simp only [go_sem,seval]
 ·intro _ hdx hI;obtain ⟨g1,g2⟩:=fS (no:=fun c:aB=>if bB s.aj c.who==1 then (0:Int) else 1) (n:=1) (z:=(⟨0,0,0,0⟩:aB)) (fun j hj=>hI j hj hj);rw [g2];simp only [go_sem,seval,hdx]
def oN (r:aq) (c:aB):Bool:=bB r c.who==1
theorem we (s:af) (cs:List aB) (hl:s.aj.small) (hc:cs.length < 2 ^ 60):Abs.Spec Tryz.prog 103 [] [.sl 4 (cs.map aB.cells),.fn 104 [.bF [.fn 97 [.bF s.cells]]]] [] (.bool (!cs.all (oN s.aj))):=by
 have h:=Dc s cs hl hc
 have e:decide (0<=fU (fun c:aB=>if bB s.aj c.who==1 then (0:Int) else 1) 1 cs) = !cs.all (oN s.aj):=by
  rw [ng,List.not_all_eq_any_not];congr 1
  funext c
  cases hb:bB s.aj c.who==1<;>simp [oN,hb]
 simp only [af.cells] at h |-;refine bg 9 2 [.tmp 4] mixed Tryz.func103 ?_;simp only [go_sem,seval];refine aa.pure h ?_;simp only [go_sem,seval,e]
def CW (r:aq) (p:aA):Bool:=uJ r p.who&&aZ r p.inst
def uk (r:aq) (t:aI):Bool:=!(bB r t.fX==0)&&(!(bB r t.dU==0)&&aZ r t.inst)
def ju (r:aq) (n:Int):Bool:=decide (0<=fU av.a n r.xs)
def sC (r:aq) (p:eO):Bool:=uJ r p.who&&ju r p.bE
def lD (s:af):Bool:=s.book.qs.all (CW s.aj)&&(s.book.ts.all (uk s.aj)&&(s.ps.all (sC s.aj)&&s.calls.all (oN s.aj)))
theorem q8 {A:Type} {f:A->Bool} {xs:List A} {i:Nat} (h:i < xs.length) (hn:f xs[i]=false):xs.all f=false:=by
 cases hc:xs.all f
 ·rfl
 ·rw [List.all_eq_true.1 hc _ (List.getElem_mem h)] at hn;cases hn
theorem nu {A:Type} {f:A->Bool} {xs:List A} (h:∀ j (hj:j < xs.length),j < xs.length->f xs[j]=true):xs.all f=true:=List.all_eq_true.2 fun x hx=>by
 obtain ⟨j,hj,rfl⟩:=List.mem_iff_getElem.1 hx;exact h j hj hj
theorem kU {A:Type} {f:A->Bool} {xs:List A} {i:Nat} (hi:i < xs.length) (hI:∀ j (hj:j < xs.length),j < i->f xs[j]=true) (h0:f xs[i]=true):∀ j (hj:j < xs.length),j < i+1->f xs[j]=true:=fun j hj hji=>by
 rcases Nat.lt_or_ge j i with h | h
 ·exact hI j hj h
 ·obtain rfl:j=i:=by omega
  exact h0
theorem K6 (s:af) (hs:s.fit) (hc:s.calls.length < 2 ^ 30):Abs.Spec Tryz.prog 41 [] [.agg s.cells] [] (.bool (lD s)):=by
 obtain ⟨hl,hb,_,hp⟩:=hs;obtain ⟨hb1,hb2⟩:=hb;have k2:=fun n=>Iv s n hl
 have k1:=fun n=>tB s n hl
 have k3:=fun n=>Je s n hl
 have kA:=fun n=>C6 s.aj n hl
 have kC:=we s s.calls hl (by omega);simp only [aq.cells] at kA;simp only [af.cells] at k1 k2 k3 kC |-;refine bg 98 1 [.tmp 2] mixed Tryz.func41 ?_;simp only [go_sem,seval,aG];refine aC.walk (S:=Unit) s.book.qs.length [1,3,4,5,19,20] [32,64,256,272,336] (fun i _=>[(21,.int .i64 i)]) (fun i _=>[]) (fun i _=>∀ j (hj:j < s.book.qs.length),j < i->CW s.aj s.book.qs[j]=true) () (by intros;omega) ?_ ?_ ?_
 ·simp only [go_sem,seval]<;>simp
 ·intro i _ hi hdi hw hI;have hm:=aD (c:=aA.cells) s.book.qs hi;have e0:=kU hi hI;have e1:CW s.aj s.book.qs[i]=false->lD s=false:=fun h=>by simp [lD,q8 hi h]
  simp only [aA.cells] at hm;simp only [go_sem,seval,hdi,hm];(with_reducible and_intros)<;>first|exact .dq|omega|skip
  refine aa.gen [] [] true (by simp) ?_;simp only [go_sem,seval];refine aY.intro (k3 s.book.qs[i].who) ?_;cases b1:uJ s.aj s.book.qs[i].who
  ·have:=e1 (by simp [CW,b1]);simp only [go_sem,seval,b1,this]
  simp only [go_sem,seval,b1];refine aa.gen [] [] true (by simp) ?_;simp only [go_sem,seval];refine aY.intro (k2 s.book.qs[i].inst) ?_;cases b2:aZ s.aj s.book.qs[i].inst
  ·have:=e1 (by simp [CW,b1,b2]);simp only [go_sem,seval,b2,this]
  simp only [go_sem,seval,b2,hw];refine ah.step () hi (e0 (by simp [CW,b1,b2])) ?_;simp only [go_sem,seval]
 intro _ hdx hI;have hA:=nu hI;have eA:lD s=(s.book.ts.all (uk s.aj)&&(s.ps.all (sC s.aj)&&s.calls.all (oN s.aj))):=by simp [lD,hA]
 rw [eA];clear eA hA hI;simp only [go_sem,seval,hdx,aG];clear hdx;refine aC.walk (S:=Unit) s.book.ts.length [1,3,4,5,42,43] [32,64,256,272,704] (fun i _=>[(44,.int .i64 i)]) (fun i _=>[]) (fun i _=>∀ j (hj:j < s.book.ts.length),j < i->uk s.aj s.book.ts[j]=true) () (by intros;omega) ?_ ?_ ?_
 ·simp only [go_sem,seval]<;>simp
 ·intro i _ hi hdi hw hI;have hm:=aD (c:=aI.cells) s.book.ts hi;have e0:=kU hi hI;have e1:uk s.aj s.book.ts[i]=false->(s.book.ts.all (uk s.aj)&&(s.ps.all (sC s.aj)&&s.calls.all (oN s.aj)))=false:=fun h=>by simp [q8 hi h]
  simp only [aI.cells] at hm;simp only [go_sem,seval,hdi,hm];(with_reducible and_intros)<;>first|exact .dq|omega|skip
  refine aa.gen [] [] true (by simp) ?_;simp only [go_sem,seval];refine aY.intro (k1 s.book.ts[i].fX) ?_;cases b1:bB s.aj s.book.ts[i].fX==0
  case true =>
   have:=e1 (by simp only [uk,b1];rfl);simp only [go_sem,seval,b1,this]
  simp only [go_sem,seval,b1];refine aa.gen [] [] true (by simp) ?_;simp only [go_sem,seval];refine aY.intro (k1 s.book.ts[i].dU) ?_;cases b2:bB s.aj s.book.ts[i].dU==0
  case true =>
   have:=e1 (by simp only [uk,b1,b2];rfl);simp only [go_sem,seval,b2,this]
  simp only [go_sem,seval,b2];refine aa.gen [] [] true (by simp) ?_;simp only [go_sem,seval];refine aY.intro (k2 s.book.ts[i].inst) ?_;cases b3:aZ s.aj s.book.ts[i].inst
  ·have:=e1 (by simp only [uk,b1,b2,b3];rfl);simp only [go_sem,seval,b3,this]
  simp only [go_sem,seval,b3,hw];refine ah.step () hi (e0 (by simp only [uk,b1,b2,b3];rfl)) ?_;simp only [go_sem,seval]
 intro _ hdx hI;have hA:=nu hI;rw [hA,Bool.true_and];clear hA hI;have hpl:(pl s.ps).length=s.ps.length:=nZ s.ps;simp only [go_sem,seval,hdx];clear hdx;refine aC.walk (S:=Unit) s.ps.length [1,3,5,69,70] [32,64,272,1136] (fun i _=>[(71,.int .i64 i)]) (fun i _=>[]) (fun i _=>∀ j (hj:j < s.ps.length),j < i->sC s.aj s.ps[j]=true) () (by intros;omega) ?_ ?_ ?_
 ·simp only [go_sem,seval]<;>simp
 ·intro i _ hi hdi hw hI;have hm:=mQ s.ps hi;have e0:=kU hi hI;have e1:sC s.aj s.ps[i]=false->(s.ps.all (sC s.aj)&&s.calls.all (oN s.aj))=false:=fun h=>by simp [q8 hi h]
  have hA:=kA s.ps[i].bE;obtain ⟨g,hg⟩:=aL (eR av.a s.ps[i].bE ⟨0,0,0,0⟩ s.aj.xs);have hAe:decide (0<=fU av.a s.ps[i].bE s.aj.xs)=ju s.aj s.ps[i].bE:=rfl;rw [<- hg,hAe] at hA;simp only [av.cells] at hA;simp only [go_sem,seval,hdi,hm];(with_reducible and_intros)<;>first|exact .dq|omega|skip
  refine aa.pure hA ?_;simp only [go_sem,seval];refine aa.gen [] [] true (by simp) ?_;simp only [go_sem,seval];refine aY.intro (k3 s.ps[i].who) ?_;cases b1:uJ s.aj s.ps[i].who
  ·have:=e1 (by simp only [sC,b1];rfl);simp only [go_sem,seval,b1,this]
  cases b2:ju s.aj s.ps[i].bE
  ·have:=e1 (by simp only [sC,b1,b2];rfl);simp only [go_sem,seval,b1,b2,this]
  simp only [go_sem,seval,b1,b2,hw];refine ah.step () hi (e0 (by simp only [sC,b1,b2];rfl)) ?_;simp only [go_sem,seval]
 intro _ hdx hI;have hA:=nu hI;rw [hA,Bool.true_and];clear hA hI;simp only [go_sem,seval,hdx];refine aa.gen [32,64] [] true (by simp) ?_;simp only [go_sem,seval];refine aY.intro kC ?_;simp only [go_sem,seval,Bool.not_not]
def HR (x y:Int):Int:=if x < y then -1 else if y < x then 1 else 0
theorem BW (x:Int):Abs.Spec Tryz.prog 207 [] [.int .i64 x] [] (.bool false):=by
 refine bg 6 1 [.tmp 2] mixed Tryz.func207 ?_;simp only [go_sem,seval,bne,beq_self_eq_true,Bool.not_true]
theorem rX (x y:Int):Abs.Spec Tryz.prog 159 [] [.int .i64 x,.int .i64 y] [] (.int .i64 (HR x y)):=by
 have h1:=BW x;have h2:=BW y;refine bg 20 2 [.tmp 4] mixed Tryz.func159 ?_;simp only [go_sem,seval];refine aa.pure h1 ?_;simp only [go_sem,seval];refine aa.pure h2 ?_;simp only [HR];rcases Int.lt_or_le x y with h | h
 ·have d:decide (x < y)=true:=decide_eq_true h;simp only [go_sem,seval,d,if_pos h]
 ·have d:decide (x < y)=false:=decide_eq_false (by omega);rw [if_neg (by omega)];rcases Int.lt_or_le y x with h3 | h3
  ·have d2:decide (y < x)=true:=decide_eq_true h3;simp only [go_sem,seval,d,d2,if_pos h3]
  ·have d2:decide (y < x)=false:=decide_eq_false (by omega);simp only [go_sem,seval,d,d2,if_neg (show ¬ y < x by omega)]
def RM:List Int->Int
 | []=>0
 | x :: xs=>if x=0 then RM xs else x
theorem I3 (xs:List Int) (hn:xs.length < 2 ^ 60):Abs.Spec Tryz.prog 158 [] [.sl 1 (ints xs)] [] (.int .i64 (RM xs)):=by
 refine bg 18 1 [.tmp 2] mixed Tryz.func158 ?_;simp only [go_sem,seval,ay];refine aC.walk (S:=Unit) xs.length [3,6,7] [128] (fun i _=>[(8,.int .i64 i)]) (fun i _=>[]) (fun i _=>RM (xs.drop i)=RM xs) () (by simp) ?_ ?_ ?_
 ·simp only [go_sem,seval]<;>simp
 ·intro i _ hi hdi hw hI;have hat:=ints_at xs hi;obtain ⟨x,hx⟩:=aL (xs[i]);have hd:RM (xs.drop i)=if x=0 then RM (xs.drop (i+1)) else x:=by rw [dy hi,RM,hx]
  rw [hd] at hI;rw [<- hx] at hat;simp only [go_sem,seval,ay,hdi,hat];(with_reducible and_intros)<;>first|exact .dq|omega|skip
  cases hb:x==0
  ·have h0:x≠0:=by simpa using hb
   rw [if_neg h0] at hI;rw [hI] at hb;simp only [go_sem,seval,bne,hb,hI]
  ·have h0:x=0:=by simpa using hb
   rw [if_pos h0] at hI;simp only [go_sem,seval,bne,hb,hw];refine ah.step () hi hI ?_;simp only [go_sem,seval]
 ·intro _ hdx hI;rw [List.drop_length,RM] at hI;simp only [go_sem,seval,ay,hdx,<- hI]
theorem Lh (x y:Int):Abs.Spec Tryz.prog 158 [] [.sl 1 [[.int .i64 x],[.int .i64 y]]] [] (.int .i64 (if x=0 then y else x)):=by
 have h:=I3 [x,y] (by simp)
 have e:RM [x,y]=if x=0 then y else x:=by
  simp only [RM];split<;>try rfl
  split<;>rename_i h<;>simp_all
 rw [e] at h;exact h
def bL (a b:aB):Bool:=decide (a.who < b.who)||(a.who==b.who&&decide (a.cur < b.cur))
def Cj (a:aB) (w c:Int):Int:=if HR a.who w=0 then HR a.cur c else HR a.who w
theorem HV (a b:aB):decide (0<=Cj a b.who b.cur) = !bL a b:=by
 rw [Bool.eq_iff_iff,decide_eq_true_iff];simp only [Cj,HR,bL,Bool.not_eq_true',Bool.or_eq_false_iff,decide_eq_false_iff_not,Bool.and_eq_false_iff,beq_eq_false_iff_ne]
 repeat' split
 all_goals omega
theorem xK (a:aB) (w c:Int):Abs.Spec Tryz.prog 96 [] [.agg a.cells,.int .i64 w,.int .i64 c] [] (.int .i64 (Cj a w c)):=by
 have h1:=rX a.who w;have h2:=rX a.cur c;have h3:=Lh (HR a.who w) (HR a.cur c);simp only [aB.cells];refine bg 19 3 [.tmp 6] mixed Tryz.func96 ?_;simp only [go_sem,seval];(with_reducible and_intros)<;>first|exact .dq|omega|skip
 refine aa.pure h1 ?_;simp only [go_sem,seval];(with_reducible and_intros)<;>first|exact .dq|omega|skip
 refine aa.pure h2 ?_;simp only [go_sem,seval];(with_reducible and_intros)<;>first|exact .dq|omega|skip
 refine aa.gen [] [] true (by simp) ?_;simp only [go_sem,seval];refine aY.intro h3 ?_;simp only [go_sem,seval,Cj]
def bS (c:aB):Bool:=(within c.who 1 16&&within c.cur 0 2)&&(within c.bV 1 4611686018427387904&&within c.till 0 1099511627776)
theorem Bi (w c:Int):Abs.Spec Tryz.prog 95 [] [.int .i64 w,.int .i64 c] [] (.bool (within w 1 16&&within c 0 2)):=by
 refine bg 19 2 [.tmp 4] mixed Tryz.func95 ?_;simp only [go_sem,seval]
 repeat' with_reducible first|apply And.intro|exact .dq|refine aa.pure (by assumption) ?_|refine .aM (fun h=>?_) fun h=>?_|refine .aK (fun h=>?_) fun h=>?_|refine .aO (fun h=>?_) fun h=>?_|refine .split (fun h=>?_) fun h=>?_|refine .id ?_|refine ah.next (by omega) ?_ ?_|exact trivial|simp only [*,go_sem,seval]
 all_goals (simp_all [within];try omega)
theorem vS (a b:aN):Abs.Spec Tryz.prog 192 [] [.agg a.cells,.agg b.cells] [] (.bool (decide (a.who < b.who)||(a.who==b.who&&decide (a.cur < b.cur)))):=by
 simp only [aN.cells];refine bg 24 2 [.tmp 4] mixed Tryz.func192 ?_;simp only [go_sem,seval]
 repeat' with_reducible first|apply And.intro|exact .dq|refine aa.pure (by assumption) ?_|refine .aM (fun h=>?_) fun h=>?_|refine .aK (fun h=>?_) fun h=>?_|refine .aO (fun h=>?_) fun h=>?_|refine .split (fun h=>?_) fun h=>?_|refine .id ?_|refine ah.next (by omega) ?_ ?_|exact trivial|simp only [*,go_sem,seval]
 all_goals (simp_all)
theorem Cu (cs:List aB) (hl:cs.length < 2 ^ 30):Abs.Spec Tryz.prog 40 [] [.sl 4 (cs.map aB.cells)] [] (.int .i64 (if mg bS bL cs then 0 else 14)):=by
 refine bg 64 1 [.tmp 2] mixed Tryz.func40 ?_;simp only [go_sem,seval,aG];refine aC.count cs.length [0,5,6] [112] (fun i=>[(7,.int .i64 i)]) (fun i=>[]) (fun i=>∀ j < i,kj bS bL cs j=true) (by simp) ?_ ?_
 ·simp only [go_sem,seval]<;>simp
 intro i hi hI;simp only [go_sem,seval,aG];refine bI.aK (fun h=>?_) (fun h=>?_)
 ·have hi':i < cs.length:=by omega
  have hw:IntKind.wrap .i64 ((i:Int)+1)=((i+1:Nat):Int):=by rw [bz (by omega) (by omega)];omega
  have hm:=aD (c:=aB.cells) cs hi';have e0:=ni (i:=i) hI;have e1:kj bS bL cs i=false->mg bS bL cs=false:=qU hi';have h1:=Bi cs[i].who cs[i].cur;have h2:Abs.Spec Tryz.prog 83 [] [.sl 1 [[.int .i64 cs[i].bV]]] [] (.bool (right [cs[i].bV])):=jM [cs[i].bV] (by simp);rw [nw] at h2;have hamt:(bP cs[i].bV&&!decide (cs[i].bV < 1))=within cs[i].bV 1 4611686018427387904:=by rw [Bool.eq_iff_iff];simp [bP,within];omega
  have htl:(!decide (cs[i].till < 0)&&!decide (1099511627776 < cs[i].till))=within cs[i].till 0 1099511627776:=by rw [Bool.eq_iff_iff];simp [within]
  simp only [aB.cells] at hm;rcases Nat.eq_zero_or_pos i with rfl | hpos
  ·have hk:=gn (ok:=bS) (lt:=bL) hi';simp only [bS,<- hamt,<- htl] at hk;simp only [go_sem,seval,hm,aG]
   repeat' with_reducible first|apply And.intro|exact .dq|refine aa.pure (by assumption) ?_|refine aa.pure (h1) ?_|(refine aa.gen [] [] true (by simp) ?_;simp only [go_sem,seval];refine aY.intro h2 ?_)|refine .aM (fun h=>?_) fun h=>?_|refine .aK (fun h=>?_) fun h=>?_|refine .aO (fun h=>?_) fun h=>?_|refine .split (fun h=>?_) fun h=>?_|refine .id ?_|refine ah.next (by omega) ?_ ?_|exact trivial|simp only [*,go_sem,seval]
   all_goals first
    | omega
    | rfl
    | (refine e0 ?_;clear e0 e1;rw [hk];clear hk;simp_all;done)
    | (refine e0 ?_;clear e0 e1;rw [hk];clear hk;simp_all;omega)
    | (rw [e1 ?_];clear e0 e1;rw [hk];clear hk;simp_all;done)
    | (rw [e1 ?_];clear e0 e1;rw [hk];clear hk;simp_all;omega)
    | (rw [e1 ?_]
       ·rfl
       ·clear e0 e1;rw [hk];clear hk;simp_all;done)
    | (rw [e1 ?_]
       ·rfl
       ·clear e0 e1;rw [hk];clear hk;simp_all;omega)
  ·obtain ⟨j,rfl⟩:∃ j,i=j+1:=⟨i-1,by omega⟩
   have hj:j < cs.length:=by omega
   have hw1:IntKind.wrap .i64 (((j+1:Nat):Int)-1)=(j:Int):=by rw [bz (by omega) (by omega)];omega
   have hk:=fR (ok:=bS) (lt:=bL) hi';simp only [bS,<- hamt,<- htl] at hk;have hmj:=aD (c:=aB.cells) cs hj;have h9:=xK cs[j] cs[j+1].who cs[j+1].cur;have hlt:=HV cs[j] cs[j+1];rw [hlt.symm.trans (by rfl:decide (0<=Cj cs[j] cs[j+1].who cs[j+1].cur)=decide (0<=Cj cs[j] cs[j+1].who cs[j+1].cur))] at hlt;simp only [aB.cells] at h9;have hk2:bL cs[j] cs[j+1] = !decide (0<=Cj cs[j] cs[j+1].who cs[j+1].cur):=by rw [HV,Bool.not_not]
   rw [hk2] at hk;clear hlt hk2;simp only [aB.cells] at hmj;simp only [go_sem,seval,hm,aG]
   repeat' with_reducible first|apply And.intro|exact .dq|refine aa.pure (by assumption) ?_|refine aa.pure (h1) ?_|(refine aa.gen [] [] true (by simp) ?_;simp only [go_sem,seval];refine aY.intro h2 ?_)|refine aa.pure (h9) ?_|refine .aM (fun h=>?_) fun h=>?_|refine .aK (fun h=>?_) fun h=>?_|refine .aO (fun h=>?_) fun h=>?_|refine .split (fun h=>?_) fun h=>?_|refine .id ?_|refine ah.next (by omega) ?_ ?_|exact trivial|simp only [*,go_sem,seval,hmj,aG]
   all_goals first
    | omega
    | rfl
    | (refine e0 ?_;clear e0 e1;rw [hk];clear hk;simp_all;done)
    | (refine e0 ?_;clear e0 e1;rw [hk];clear hk;simp_all;omega)
    | (rw [e1 ?_];clear e0 e1;rw [hk];clear hk;simp_all;done)
    | (rw [e1 ?_];clear e0 e1;rw [hk];clear hk;simp_all;omega)
    | (rw [e1 ?_]
       ·rfl
       ·clear e0 e1;rw [hk];clear hk;simp_all;done)
    | (rw [e1 ?_]
       ·rfl
       ·clear e0 e1;rw [hk];clear hk;simp_all;omega)
 have hCH:=l7 (fun j (hj:j < cs.length)=>hI j (by omega));clear hI;simp only [go_sem,seval,hCH]
theorem pT (cs:List aB) (hl:cs.length < 2 ^ 30):Abs.Spec Tryz.prog 164 [] [.sl 4 (cs.map aB.cells)] [] (.bool (mg bS bL cs)):=by
 refine bg 56 1 [.tmp 2] mixed Tryz.func164 ?_;simp only [go_sem,seval,aG];refine aC.count cs.length [0] [] (fun i=>[(3,.int .i64 i)]) (fun i=>[]) (fun i=>∀ j < i,kj bS bL cs j=true) (by simp) ?_ ?_
 ·simp only [go_sem,seval]<;>simp
 intro i hi hI;simp only [go_sem,seval,aG];refine bI.aK (fun h=>?_) (fun h=>?_)
 ·have hi':i < cs.length:=by omega
  have hw:IntKind.wrap .i64 ((i:Int)+1)=((i+1:Nat):Int):=by rw [bz (by omega) (by omega)];omega
  have hm:=aD (c:=aB.cells) cs hi';have e0:=ni (i:=i) hI;have e1:kj bS bL cs i=false->mg bS bL cs=false:=qU hi';have h1:=fC cs[i].who;have h2:=fA cs[i].cur;have h3:=eM cs[i].bV 1 4611686018427387904;have h4:=eM cs[i].till 0 1099511627776;simp only [aB.cells] at hm;rcases Nat.eq_zero_or_pos i with rfl | hpos
  ·have hk:=gn (ok:=bS) (lt:=bL) hi';simp only [bS] at hk;simp only [go_sem,seval,hm,aG]
   repeat' with_reducible first|apply And.intro|exact .dq|refine aa.pure (by assumption) ?_|refine aa.pure (h1) ?_|refine aa.pure (h2) ?_|refine aa.pure (h3) ?_|refine aa.pure (h4) ?_|refine .aM (fun h=>?_) fun h=>?_|refine .aK (fun h=>?_) fun h=>?_|refine .aO (fun h=>?_) fun h=>?_|refine .split (fun h=>?_) fun h=>?_|refine .id ?_|refine ah.next (by omega) ?_ ?_|exact trivial|simp only [*,go_sem,seval]
   all_goals first
    | omega
    | rfl
    | (refine e0 ?_;clear e0 e1;rw [hk];clear hk;simp_all;done)
    | (refine e0 ?_;clear e0 e1;rw [hk];clear hk;simp_all;omega)
    | (rw [e1 ?_];clear e0 e1;rw [hk];clear hk;simp_all;done)
    | (rw [e1 ?_];clear e0 e1;rw [hk];clear hk;simp_all;omega)
    | (rw [e1 ?_]
       ·rfl
       ·clear e0 e1;rw [hk];clear hk;simp_all;done)
    | (rw [e1 ?_]
       ·rfl
       ·clear e0 e1;rw [hk];clear hk;simp_all;omega)
  ·obtain ⟨j,rfl⟩:∃ j,i=j+1:=⟨i-1,by omega⟩
   have hj:j < cs.length:=by omega
   have hw1:IntKind.wrap .i64 (((j+1:Nat):Int)-1)=(j:Int):=by rw [bz (by omega) (by omega)];omega
   have hk:=fR (ok:=bS) (lt:=bL) hi';simp only [bS] at hk;have hmj:=aD (c:=aB.cells) cs hj;have h9:=vS ⟨cs[j].who,cs[j].cur,cs[j].bV⟩ ⟨cs[j+1].who,cs[j+1].cur,cs[j+1].bV⟩;simp only [aN.cells] at h9;simp only [bL] at hk;obtain ⟨lt,hlt⟩:=aL ((decide (cs[j].who < cs[j+1].who)||(cs[j].who==cs[j+1].who&&decide (cs[j].cur < cs[j+1].cur))));rw [<- hlt] at hk h9;clear hlt;simp only [aB.cells] at hmj;simp only [go_sem,seval,hm,aG]
   repeat' with_reducible first|apply And.intro|exact .dq|refine aa.pure (by assumption) ?_|refine aa.pure (h1) ?_|refine aa.pure (h2) ?_|refine aa.pure (h3) ?_|refine aa.pure (h4) ?_|refine aa.pure (h9) ?_|refine .aM (fun h=>?_) fun h=>?_|refine .aK (fun h=>?_) fun h=>?_|refine .aO (fun h=>?_) fun h=>?_|refine .split (fun h=>?_) fun h=>?_|refine .id ?_|refine ah.next (by omega) ?_ ?_|exact trivial|simp only [*,go_sem,seval,hmj,aG]
   all_goals first
    | omega
    | rfl
    | (refine e0 ?_;clear e0 e1;rw [hk];clear hk;simp_all;done)
    | (refine e0 ?_;clear e0 e1;rw [hk];clear hk;simp_all;omega)
    | (rw [e1 ?_];clear e0 e1;rw [hk];clear hk;simp_all;done)
    | (rw [e1 ?_];clear e0 e1;rw [hk];clear hk;simp_all;omega)
    | (rw [e1 ?_]
       ·rfl
       ·clear e0 e1;rw [hk];clear hk;simp_all;done)
    | (rw [e1 ?_]
       ·rfl
       ·clear e0 e1;rw [hk];clear hk;simp_all;omega)
 have hCH:=l7 (fun j (hj:j < cs.length)=>hI j (by omega));clear hI;simp only [go_sem,seval,hCH]
def pI (s:af):Bool:=within s.now 0 1099511627776&&(within s.day 0 1099511627776&&within s.phase 0 2)
theorem zx (a b c:Int):Abs.Spec Tryz.prog 35 [] [.agg [.int .i64 a,.int .i64 b,.int .i64 c]] [] (.bool (within a 0 1099511627776&&(within b 0 1099511627776&&within c 0 2))):=by
 refine bg 31 1 [.tmp 2] mixed Tryz.func35 ?_;simp only [go_sem,seval]
 repeat' with_reducible first|apply And.intro|exact .dq|refine aa.pure (by assumption) ?_|refine .aM (fun h=>?_) fun h=>?_|refine .aK (fun h=>?_) fun h=>?_|refine .aO (fun h=>?_) fun h=>?_|refine .split (fun h=>?_) fun h=>?_|refine .id ?_|refine ah.next (by omega) ?_ ?_|exact trivial|simp only [*,go_sem,seval]
 all_goals (simp_all [within];try omega)
def j9 (b:br):Bool:=ot b.who b.inst&&(within b.src 1 16&&(within b.aV 1 1048576&&within b.aR 1 1073741824))
theorem D2 (b:br):Abs.Spec Tryz.prog 42 [] [.agg b.cells] [] (.bool (j9 b)):=by
 simp only [br.cells];refine bg 55 1 [.tmp 2] mixed Tryz.func42 ?_;simp only [go_sem,seval]
 repeat' with_reducible first|apply And.intro|exact .dq|refine aa.pure (by assumption) ?_|refine .aM (fun h=>?_) fun h=>?_|refine .aK (fun h=>?_) fun h=>?_|refine .aO (fun h=>?_) fun h=>?_|refine .split (fun h=>?_) fun h=>?_|refine .id ?_|refine ah.next (by omega) ?_ ?_|exact trivial|simp only [*,go_sem,seval]
 all_goals (simp_all [j9,ot,within];try omega)
def fc (x:bD):Bool:=within x.client 1 8&&within x.seq 1 1099511627776
def dG (a b:bD):Bool:=decide (a.client < b.client)
def bu (s:af):Bool:=pI s&&(s.aj.okB&&(s.book.okB&&(s.aU.okB&&(gh s.ps&&(mg bS bL s.calls&&(lD s&&(!decide (32 < (s.aW.length:Int))&&(s.aW.all j9&&mg fc dG s.aJ))))))))
theorem Aa (s:af) (hs:s.small):Abs.Spec Tryz.prog 24 [] [.agg s.cells] [] (.int .i64 (if bu s then 0 else 14)):=by
 have hfit:s.fit:=⟨hs.aj.small,hs.book,hs.aU,hs.ps⟩
 have c1:=zx s.now s.day s.phase;have c2:=Cw s.aj hs.aj.small;have c3:=Dq s.book hs.book;have c4:=DW s.aU hs.aU;have c5:=Oj s.ps (by have:=hs.ps;omega);have c6:=Cu s.calls hs.calls;have c7:=K6 s hfit hs.calls;have hbl:=hs.aW;have hsl:=hs.aJ;clear hfit;simp only [aq.cells,aF.cells,bq.cells] at c2 c3 c4;simp only [af.cells] at c7 |-;refine bg 106 1 [.tmp 2] mixed Tryz.func24 ?_;simp only [go_sem,seval];refine aa.pure c1 ?_;cases b1:pI s
 ·have e:bu s=false:=by simp [bu,b1]
  simp only [pI] at b1;simp only [go_sem,seval,b1,e]<;>simp
 have b1':=b1;simp only [pI] at b1';simp only [go_sem,seval,b1'];refine aa.pure c2 ?_;cases b2:s.aj.okB
 ·have e:bu s=false:=by simp [bu,b2]
  simp only [go_sem,seval,e]<;>simp
 simp only [go_sem,seval];refine aa.pure c3 ?_;cases b3:s.book.okB
 ·have e:bu s=false:=by simp [bu,b3]
  simp only [go_sem,seval,e]<;>simp
 simp only [go_sem,seval];refine aa.pure c4 ?_;cases b4:s.aU.okB
 ·have e:bu s=false:=by simp [bu,b4]
  simp only [go_sem,seval,e]<;>simp
 simp only [go_sem,seval];refine aa.pure c5 ?_;cases b5:gh s.ps
 ·have e:bu s=false:=by simp [bu,b5]
  simp only [go_sem,seval,e]<;>simp
 simp only [go_sem,seval];refine aa.pure c6 ?_;cases b6:mg bS bL s.calls
 ·have e:bu s=false:=by simp [bu,b6]
  simp only [go_sem,seval,e]<;>simp
 simp only [go_sem,seval];refine aa.pure c7 ?_;cases b7:lD s
 ·have e:bu s=false:=by simp [bu,b7]
  simp only [go_sem,seval,e]<;>simp
 cases b8:decide (32 < (s.aW.length:Int))
 case true =>
  have e:bu s=false:=by simp [bu,b8]
  simp only [go_sem,seval,aG,b8,e]<;>simp
 have e:bu s=(s.aW.all j9&&mg fc dG s.aJ):=by simp only [bu,b1,b2,b3,b4,b5,b6,b7,b8,Bool.true_and,Bool.not_false]
 rw [e];clear e c1 c2 c3 c4 c5 c6 c7 b1 b1' b2 b3 b4 b5 b6 b7;simp only [go_sem,seval,aG,b8];refine aC.walk (S:=Unit) s.aW.length [1,53,54] [32,880] (fun i _=>[(55,.int .i64 i)]) (fun i _=>[]) (fun i _=>∀ j (hj:j < s.aW.length),j < i->j9 s.aW[j]=true) () (by intros;omega) ?_ ?_ ?_
 ·simp only [go_sem,seval]<;>simp
 ·intro i _ hi hdi hw hI;have hm:=aD (c:=br.cells) s.aW hi;have hb:=D2 s.aW[i];have e0:=kU hi hI;have e1:j9 s.aW[i]=false->(s.aW.all j9&&mg fc dG s.aJ)=false:=fun h=>by simp [q8 hi h]
  simp only [br.cells] at hm hb;simp only [go_sem,seval,hdi,hm];(with_reducible and_intros)<;>first|exact .dq|omega|skip
  refine aa.pure hb ?_;cases b1:j9 s.aW[i]
  ·have:=e1 b1;simp only [go_sem,seval,this]<;>simp
  simp only [go_sem,seval,hw];refine ah.step () hi (e0 b1) ?_;simp only [go_sem,seval]
 intro _ hdx hI;have hA:=nu hI;rw [hA,Bool.true_and];clear hI hA;simp only [go_sem,seval,hdx,aG];clear hdx b8;refine aC.count s.aJ.length [1,64,65] [32,1056] (fun i=>[(66,.int .i64 i)]) (fun i=>[]) (fun i=>∀ j < i,kj fc dG s.aJ j=true) (by simp) ?_ ?_
 ·simp only [go_sem,seval]<;>simp
 intro i hi hI;simp only [go_sem,seval,aG];refine bI.aK (fun h=>?_) (fun h=>?_)
 ·have hi':i < s.aJ.length:=by omega
  have hw:IntKind.wrap .i64 ((i:Int)+1)=((i+1:Nat):Int):=by rw [bz (by omega) (by omega)];omega
  have hm:=aD (c:=bD.cells) s.aJ hi';have e0:=ni (i:=i) hI;have e1:kj fc dG s.aJ i=false->mg fc dG s.aJ=false:=qU hi'

  simp only [bD.cells] at hm;rcases Nat.eq_zero_or_pos i with rfl | hpos
  ·have hk:=gn (ok:=fc) (lt:=dG) hi';simp only [fc,dG,within] at hk;simp only [go_sem,seval,hm,aG]
   repeat' with_reducible first|apply And.intro|exact .dq|refine aa.pure (by assumption) ?_|refine .aM (fun h=>?_) fun h=>?_|refine .aK (fun h=>?_) fun h=>?_|refine .aO (fun h=>?_) fun h=>?_|refine .split (fun h=>?_) fun h=>?_|refine .id ?_|refine ah.next (by omega) ?_ ?_|exact trivial|simp only [*,go_sem,seval]
   all_goals first
    | omega
    | rfl
    | (refine e0 ?_;clear e0 e1;rw [hk];clear hk;simp_all;done)
    | (refine e0 ?_;clear e0 e1;rw [hk];clear hk;simp_all;omega)
    | (rw [e1 ?_];clear e0 e1;rw [hk];clear hk;simp_all;done)
    | (rw [e1 ?_];clear e0 e1;rw [hk];clear hk;simp_all;omega)
    | (rw [e1 ?_]
       ·rfl
       ·clear e0 e1;rw [hk];clear hk;simp_all;done)
    | (rw [e1 ?_]
       ·rfl
       ·clear e0 e1;rw [hk];clear hk;simp_all;omega)
  ·obtain ⟨j,rfl⟩:∃ j,i=j+1:=⟨i-1,by omega⟩
   have hj:j < s.aJ.length:=by omega
   have hw1:IntKind.wrap .i64 (((j+1:Nat):Int)-1)=(j:Int):=by rw [bz (by omega) (by omega)];omega
   have hk:=fR (ok:=fc) (lt:=dG) hi';simp only [fc,dG,within] at hk;have hmj:=aD (c:=bD.cells) s.aJ hj

   simp only [bD.cells] at hmj;simp only [go_sem,seval,hm,aG]
   repeat' with_reducible first|apply And.intro|exact .dq|refine aa.pure (by assumption) ?_|refine .aM (fun h=>?_) fun h=>?_|refine .aK (fun h=>?_) fun h=>?_|refine .aO (fun h=>?_) fun h=>?_|refine .split (fun h=>?_) fun h=>?_|refine .id ?_|refine ah.next (by omega) ?_ ?_|exact trivial|simp only [*,go_sem,seval,hmj,aG]
   all_goals first
    | omega
    | rfl
    | (refine e0 ?_;clear e0 e1;rw [hk];clear hk;simp_all;done)
    | (refine e0 ?_;clear e0 e1;rw [hk];clear hk;simp_all;omega)
    | (rw [e1 ?_];clear e0 e1;rw [hk];clear hk;simp_all;done)
    | (rw [e1 ?_];clear e0 e1;rw [hk];clear hk;simp_all;omega)
    | (rw [e1 ?_]
       ·rfl
       ·clear e0 e1;rw [hk];clear hk;simp_all;done)
    | (rw [e1 ?_]
       ·rfl
       ·clear e0 e1;rw [hk];clear hk;simp_all;omega)
 have hCH:=l7 (fun j (hj:j < s.aJ.length)=>hI j (by omega));clear hI;simp only [go_sem,seval,hCH]
theorem fD (a b c:Int):Abs.Spec Tryz.prog 142 [] [.int .i64 a,.int .i64 b,.int .i64 c] [] (.bool (within a b c)):=by
 refine bg 15 3 [.tmp 6] mixed Tryz.func142 ?_;simp only [go_sem,seval]
 repeat' with_reducible first|apply And.intro|exact .dq|refine aa.pure (by assumption) ?_|refine .aM (fun h=>?_) fun h=>?_|refine .aK (fun h=>?_) fun h=>?_|refine .aO (fun h=>?_) fun h=>?_|refine .split (fun h=>?_) fun h=>?_|refine .id ?_|refine ah.next (by omega) ?_ ?_|exact trivial|simp only [*,go_sem,seval]
 all_goals (simp only [within];simp<;>omega)
theorem ck (r:aq) (n:Int) (hl:r.small):Abs.Spec Tryz.prog 115 [] [.agg r.cells,.int .i64 n] [] (.bH [.agg (ff r n).cells,.bool (eI r n)]):=by
 obtain ⟨l1,l2,l3⟩:=hl;simp only [aq.cells];refine bg 28 2 [.cell 4 79,.tmp 5] mixed Tryz.func115 ?_;simp only [go_sem,seval,aG];refine aC.walk (S:=Unit) r.ms.length [1,2,4] [48,80] (fun i _=>[(6,.int .i64 i)]) (fun i _=>[]) (fun i _=>∀ j (hj:j < r.ms.length),j < i->r.ms[j].no≠n) () (by intros;omega) ?_ ?_ ?_
 ·simp only [go_sem,seval]<;>simp
 ·intro i _ hi hdi hw hI;have hm:=aD (c:=ak.cells) r.ms hi;have hlt:(i:Int) < (r.ms.length:Int):=by omega
  simp only [ak.cells] at hm |-;simp only [go_sem,seval,aG,hdi,hm];(with_reducible and_intros)<;>first|exact .dq|omega|skip
  cases hb:r.ms[i].no==n
  ·have hb2:r.ms[i].no≠n:=by simpa using hb
   simp only [go_sem,seval,hw];refine ah.step () hi ?_ ?_
   ·intro j hj hji;rcases Nat.lt_or_ge j i with h | h
    ·exact hI j hj h
    ·obtain rfl:j=i:=by omega
     exact hb2
   ·simp only [go_sem,seval]
  ·have hb2:r.ms[i].no=n:=by simpa using hb
   obtain ⟨g1,g2⟩:=gX (z:=ak.zero) hi hI hb2;have e1:ff r n=r.ms[i]:=g1;have e2:eI r n=true:=by simp [eI,g2]
   rw [e1,e2];simp only [go_sem,seval,hm,aG];(with_reducible and_intros)<;>first|exact .dq|omega|skip
 ·intro _ hdx hI;obtain ⟨g1,g2⟩:=fS (z:=ak.zero) (fun j hj=>hI j hj hj);have e1:ff r n=ak.zero:=g1;have e2:eI r n=false:=by simp [eI,g2]
  rw [e1,e2];simp only [go_sem,seval,aG,hdx,ak.cells,ak.zero]
theorem l9 (s:af) (n:Int) (hl:s.aj.small):Abs.Spec Tryz.prog 184 [] [.agg s.cells,.int .i64 n] [] (.int .i64 (bB s.aj n)):=by
 have h:=ck s.aj n hl;simp only [bB];obtain ⟨g,hg⟩:=aL (ff s.aj n);rw [<- hg] at h |-;simp only [aq.cells,ak.cells] at h;simp only [af.cells];refine bg 16 2 [.tmp 4] mixed Tryz.func184 ?_;simp only [go_sem,seval];refine aa.pure h ?_;simp only [go_sem,seval]
theorem Bc (s:af) (n:Int) (hl:s.aj.small):Abs.Spec Tryz.prog 185 [] [.agg s.cells,.int .i64 n] [] (.bool (aZ s.aj n)):=by
 have h:=dc s.aj n hl;obtain ⟨g,hg⟩:=aL (aT s.aj n);rw [<- hg] at h;simp only [aq.cells,au.cells] at h;simp only [af.cells];refine bg 15 2 [.tmp 4] mixed Tryz.func185 ?_;simp only [go_sem,seval];refine aa.pure h ?_;simp only [go_sem,seval]
theorem GP (s:af) (hl:s.aW.length < 2 ^ 30):Abs.Spec Tryz.prog 186 [] [.agg s.cells] [] (.bool (!decide (32 < (s.aW.length:Int))&&s.aW.all j9)):=by
 simp only [af.cells];refine bg 43 1 [.tmp 2] mixed Tryz.func186 ?_;simp only [go_sem,seval,aG];refine aC.walk (S:=Unit) s.aW.length [1] [32] (fun i _=>[(3,.int .i64 i)]) (fun i _=>[]) (fun i _=>∀ j (hj:j < s.aW.length),j < i->j9 s.aW[j]=true) () (by intros;omega) ?_ ?_ ?_
 ·simp only [go_sem,seval]<;>simp
 ·intro i _ hi hdi hw hI;have hm:=aD (c:=br.cells) s.aW hi;have h1:=oQ s.aW[i].who s.aW[i].inst;have h2:=fC s.aW[i].src;have h3:=fD s.aW[i].aV 1 1048576;have h4:=fD s.aW[i].aR 1 1073741824;have hli:(i:Int) < (s.aW.length:Int):=by omega
  have e0:=kU hi hI;have e1:j9 s.aW[i]=false->(!decide (32 < (s.aW.length:Int))&&s.aW.all j9)=false:=fun h=>by simp [q8 hi h]
  simp only [j9] at e0 e1;simp only [br.cells] at hm;simp only [go_sem,seval,hdi,aG,hm];(with_reducible and_intros)<;>first|exact .dq|omega|skip
  refine aa.pure h1 ?_;cases b1:ot s.aW[i].who s.aW[i].inst
  ·have:=e1 (by simp [b1]);simp only [go_sem,seval,this]
  simp only [go_sem,seval];refine aa.pure h2 ?_;cases b2:within s.aW[i].src 1 16
  ·have:=e1 (by simp [b2]);simp only [go_sem,seval,this]
  simp only [go_sem,seval];refine aa.pure h3 ?_;cases b3:within s.aW[i].aV 1 1048576
  ·have:=e1 (by simp [b3]);simp only [go_sem,seval,this]
  simp only [go_sem,seval];refine aa.pure h4 ?_;cases b4:within s.aW[i].aR 1 1073741824
  ·have:=e1 (by simp [b4]);simp only [go_sem,seval,this]
  simp only [go_sem,seval,hw];refine ah.step () hi (e0 (by simp [b1,b2,b3,b4])) ?_;simp only [go_sem,seval]
 ·intro _ hdx hI;have hA:=nu hI;have e:decide ((s.aW.length:Int)<=32) = !decide (32 < (s.aW.length:Int)):=by rw [Bool.eq_iff_iff];simp
  simp only [go_sem,seval,hdx,aG,hA,Bool.and_true,e]
theorem DN (s:af) (hl:s.aJ.length < 2 ^ 30):Abs.Spec Tryz.prog 187 [] [.agg s.cells] [] (.bool (mg fc dG s.aJ)):=by
 simp only [af.cells];refine bg 43 1 [.tmp 2] mixed Tryz.func187 ?_;simp only [go_sem,seval,aG];refine aC.count s.aJ.length [1] [32] (fun i=>[(3,.int .i64 i)]) (fun i=>[]) (fun i=>∀ j < i,kj fc dG s.aJ j=true) (by simp) ?_ ?_
 ·simp only [go_sem,seval]<;>simp
 intro i hi hI;simp only [go_sem,seval,aG];refine bI.aK (fun h=>?_) (fun h=>?_)
 ·have hi':i < s.aJ.length:=by omega
  have hw:IntKind.wrap .i64 ((i:Int)+1)=((i+1:Nat):Int):=by rw [bz (by omega) (by omega)];omega
  have hm:=aD (c:=bD.cells) s.aJ hi';have e0:=ni (i:=i) hI;have e1:kj fc dG s.aJ i=false->mg fc dG s.aJ=false:=qU hi';have h1:=fD s.aJ[i].client 1 8;have h2:=fD s.aJ[i].seq 1 1099511627776;simp only [bD.cells] at hm;rcases Nat.eq_zero_or_pos i with rfl | hpos
  ·have hk:=gn (ok:=fc) (lt:=dG) hi';simp only [fc,dG] at hk;simp only [go_sem,seval,hm,aG]
   repeat' with_reducible first|apply And.intro|exact .dq|refine aa.pure (by assumption) ?_|refine aa.pure (h1) ?_|refine aa.pure (h2) ?_|refine .aM (fun h=>?_) fun h=>?_|refine .aK (fun h=>?_) fun h=>?_|refine .aO (fun h=>?_) fun h=>?_|refine .split (fun h=>?_) fun h=>?_|refine .id ?_|refine ah.next (by omega) ?_ ?_|exact trivial|simp only [*,go_sem,seval]
   all_goals first
    | omega
    | rfl
    | (refine e0 ?_;clear e0 e1;rw [hk];clear hk;simp_all;done)
    | (refine e0 ?_;clear e0 e1;rw [hk];clear hk;simp_all;omega)
    | (rw [e1 ?_];clear e0 e1;rw [hk];clear hk;simp_all;done)
    | (rw [e1 ?_];clear e0 e1;rw [hk];clear hk;simp_all;omega)
    | (rw [e1 ?_]
       ·rfl
       ·clear e0 e1;rw [hk];clear hk;simp_all;done)
    | (rw [e1 ?_]
       ·rfl
       ·clear e0 e1;rw [hk];clear hk;simp_all;omega)
  ·obtain ⟨j,rfl⟩:∃ j,i=j+1:=⟨i-1,by omega⟩
   have hj:j < s.aJ.length:=by omega
   have hw1:IntKind.wrap .i64 (((j+1:Nat):Int)-1)=(j:Int):=by rw [bz (by omega) (by omega)];omega
   have hk:=fR (ok:=fc) (lt:=dG) hi';simp only [fc,dG] at hk;have hmj:=aD (c:=bD.cells) s.aJ hj;have hlt:decide (s.aJ[j].client < s.aJ[j+1].client) = !decide (s.aJ[j+1].client<=s.aJ[j].client):=by rw [Bool.eq_iff_iff];simp
   rw [hlt] at hk;clear hlt;simp only [bD.cells] at hmj;simp only [go_sem,seval,hm,aG]
   repeat' with_reducible first|apply And.intro|exact .dq|refine aa.pure (by assumption) ?_|refine aa.pure (h1) ?_|refine aa.pure (h2) ?_|refine .aM (fun h=>?_) fun h=>?_|refine .aK (fun h=>?_) fun h=>?_|refine .aO (fun h=>?_) fun h=>?_|refine .split (fun h=>?_) fun h=>?_|refine .id ?_|refine ah.next (by omega) ?_ ?_|exact trivial|simp only [*,go_sem,seval,hmj,aG]
   all_goals first
    | omega
    | rfl
    | (refine e0 ?_;clear e0 e1;rw [hk];clear hk;simp_all;done)
    | (refine e0 ?_;clear e0 e1;rw [hk];clear hk;simp_all;omega)
    | (rw [e1 ?_];clear e0 e1;rw [hk];clear hk;simp_all;done)
    | (rw [e1 ?_];clear e0 e1;rw [hk];clear hk;simp_all;omega)
    | (rw [e1 ?_]
       ·rfl
       ·clear e0 e1;rw [hk];clear hk;simp_all;done)
    | (rw [e1 ?_]
       ·rfl
       ·clear e0 e1;rw [hk];clear hk;simp_all;omega)
 have hCH:=l7 (fun j (hj:j < s.aJ.length)=>hI j (by omega));clear hI;simp only [go_sem,seval,hCH]
theorem PD {r:aq} (h:r.okB=true) (n:Int):0<=bB r n/\bB r n<=3:=by
 simp only [aq.okB,bW] at h;have hm:=qn h.1.1;unfold bB ff;generalize r.ms=ms at hm
 induction ms with
 | nil=>simp [eR,ak.zero]
 | cons x t ih =>
  simp only [eR];split
  ·have:=hm x (by simp);simp only [ak.ok,within,bW,decide_eq_true_eq] at this;omega
  ·exact ih fun y hy=>hm y (by simp [hy])
theorem SN {r:aq} (h:r.okB=true) (n:Int):uJ r n=(!(bB r n==0)&&!(bB r n==3)):=by
 have:=PD h n;rw [Bool.eq_iff_iff];simp only [uJ,Bool.or_eq_true,bW,Bool.not_eq_true',beq_iff_eq,beq_eq_false_iff_ne];omega
theorem gz (s:af) (hs:s.small) (hr:s.cE):Abs.Spec Tryz.prog 134 [] [.agg s.cells] [] (.bool (bu s)):=by
 have hro:=hs.aj.small;have a1:=fD s.now 0 1099511627776;have a2:=fD s.day 0 1099511627776;have a3:=fD s.phase 0 2;have c2:=dJ s.aj hro;have c3:=gH s.book hs.book hr.qs;have c4:=gW s.aU hs.aU hr.bs;have c5:=mJ s.ps (by have:=hs.ps;omega);have c6:=pT s.calls hs.calls;have kS:=fun n=>l9 s n hro
 have kL:=fun n=>Bc s n hro
 have kH:=fun n=>kn s.aj n hro
 have c7:=GP s hs.aW;have c8:=DN s hs.aJ;obtain ⟨hb1,hb2⟩:=hs.book;have hpl:=hs.ps;have hcl:=hs.calls;have hop:=fun h n=>SN (r:=s.aj) h n
 simp only [aq.cells,aF.cells,bq.cells] at c2 c3 c4 kH;simp only [af.cells] at kS kL c7 c8 |-;clear hs hr hro;refine bg 197 1 [.tmp 2] mixed Tryz.func134 ?_;simp only [go_sem,seval];refine aa.pure a1 ?_;cases q1:within s.now 0 1099511627776
 ·have e:bu s=false:=by simp [bu,pI,q1]
  simp only [go_sem,seval,e]
 simp only [go_sem,seval];refine aa.pure a2 ?_;cases q2:within s.day 0 1099511627776
 ·have e:bu s=false:=by simp [bu,pI,q2]
  simp only [go_sem,seval,e]
 simp only [go_sem,seval];refine aa.pure a3 ?_;cases q3:within s.phase 0 2
 ·have e:bu s=false:=by simp [bu,pI,q3]
  simp only [go_sem,seval,e]
 simp only [go_sem,seval];refine aa.pure c2 ?_;cases b2:s.aj.okB
 ·have e:bu s=false:=by simp [bu,b2]
  simp only [go_sem,seval,e]
 simp only [go_sem,seval];refine aa.pure c3 ?_;cases b3:s.book.okB
 ·have e:bu s=false:=by simp [bu,b3]
  simp only [go_sem,seval,e]
 simp only [go_sem,seval];refine aa.pure c4 ?_;cases b4:s.aU.okB
 ·have e:bu s=false:=by simp [bu,b4]
  simp only [go_sem,seval,e]
 simp only [go_sem,seval];refine aa.pure c5 ?_;cases b5:gh s.ps
 ·have e:bu s=false:=by simp [bu,b5]
  simp only [go_sem,seval,e]
 simp only [go_sem,seval];refine aa.pure c6 ?_;cases b6:mg bS bL s.calls
 ·have e:bu s=false:=by simp [bu,b6]
  simp only [go_sem,seval,e]
 have hop:=hop b2;have e:bu s=(lD s&&(!decide (32 < (s.aW.length:Int))&&(s.aW.all j9&&mg fc dG s.aJ))):=by simp only [bu,pI,q1,q2,q3,b2,b3,b4,b5,b6,Bool.true_and]
 rw [e];clear e a1 a2 a3 c2 c3 c4 c5 c6 q1 q2 q3 b2 b3 b4 b5 b6;obtain ⟨R,hR⟩:=aL ((!decide (32 < (s.aW.length:Int))&&(s.aW.all j9&&mg fc dG s.aJ)));rw [<- hR];simp only [go_sem,seval,aG];refine aC.walk (S:=Unit) s.book.qs.length [1] [32] (fun i _=>[(3,.int .i64 i)]) (fun i _=>[]) (fun i _=>∀ j (hj:j < s.book.qs.length),j < i->CW s.aj s.book.qs[j]=true) () (by intros;omega) ?_ ?_ ?_
 ·simp only [go_sem,seval]<;>simp
 ·intro i _ hi hdi hw hI;have hm:=aD (c:=aA.cells) s.book.qs hi;have hli:(i:Int) < (s.book.qs.length:Int):=by omega
  have e0:=kU hi hI;have e1:CW s.aj s.book.qs[i]=false->(lD s&&R)=false:=fun h=>by simp [lD,q8 hi h]
  simp only [CW,hop] at e1;simp only [aA.cells] at hm;simp only [go_sem,seval,hdi,aG,hm];(with_reducible and_intros)<;>first|exact .dq|omega|skip
  refine aa.pure (kS s.book.qs[i].who) ?_;cases b1:bB s.aj s.book.qs[i].who==0
  case true =>
   have:=e1 (by simp [b1]);simp only [go_sem,seval,b1,this];(with_reducible and_intros)<;>first|exact .dq|omega|skip
  cases b2:bB s.aj s.book.qs[i].who==3
  case true =>
   have:=e1 (by simp [b2]);simp only [go_sem,seval,b1,b2,this];(with_reducible and_intros)<;>first|exact .dq|omega|skip
  simp only [go_sem,seval,b1,b2,hm,aG];(with_reducible and_intros)<;>first|exact .dq|omega|skip
  refine aa.pure (kL s.book.qs[i].inst) ?_;cases b3:aZ s.aj s.book.qs[i].inst
  ·have:=e1 (by simp [b3]);simp only [go_sem,seval,this]
  simp only [go_sem,seval,hw];refine ah.step () hi (e0 (by simp only [CW,hop,b1,b2,b3];rfl)) ?_;simp only [go_sem,seval]
 intro _ hdx hI;have hA:=nu hI;have eA:(lD s&&R)=((s.book.ts.all (uk s.aj)&&(s.ps.all (sC s.aj)&&s.calls.all (oN s.aj)))&&R):=by simp [lD,hA]
 rw [eA];clear eA hA hI;simp only [go_sem,seval,hdx,aG];clear hdx;refine aC.walk (S:=Unit) s.book.ts.length [1] [32] (fun i _=>[(5,.int .i64 i)]) (fun i _=>[]) (fun i _=>∀ j (hj:j < s.book.ts.length),j < i->uk s.aj s.book.ts[j]=true) () (by intros;omega) ?_ ?_ ?_
 ·simp only [go_sem,seval]<;>simp
 ·intro i _ hi hdi hw hI;have hm:=aD (c:=aI.cells) s.book.ts hi;have hli:(i:Int) < (s.book.ts.length:Int):=by omega
  have e0:=kU hi hI;have e1:uk s.aj s.book.ts[i]=false->((s.book.ts.all (uk s.aj)&&(s.ps.all (sC s.aj)&&s.calls.all (oN s.aj)))&&R)=false:=fun h=>by simp [q8 hi h]
  simp only [uk] at e1;simp only [aI.cells] at hm;simp only [go_sem,seval,hdi,aG,hm];(with_reducible and_intros)<;>first|exact .dq|omega|skip
  refine aa.pure (kS s.book.ts[i].fX) ?_;cases b1:bB s.aj s.book.ts[i].fX==0
  case true =>
   have:=e1 (by simp [b1]);simp only [go_sem,seval,b1];exact this.symm
  simp only [go_sem,seval,b1,hm,aG];(with_reducible and_intros)<;>first|exact .dq|omega|skip
  refine aa.pure (kS s.book.ts[i].dU) ?_;cases b2:bB s.aj s.book.ts[i].dU==0
  case true =>
   simp only [go_sem,seval,b2];exact (e1 (by simp [b2])).symm
  simp only [go_sem,seval,b2,hm,aG];(with_reducible and_intros)<;>first|exact .dq|omega|skip
  refine aa.pure (kL s.book.ts[i].inst) ?_;cases b3:aZ s.aj s.book.ts[i].inst
  ·simp only [go_sem,seval];exact (e1 (by simp [b3])).symm
  simp only [go_sem,seval,hw];refine ah.step () hi (e0 (by simp only [uk,b1,b2,b3];rfl)) ?_;simp only [go_sem,seval]
 intro _ hdx hI;have hA:=nu hI;rw [hA,Bool.true_and];clear hA hI;have hpln:(pl s.ps).length=s.ps.length:=nZ s.ps;simp only [go_sem,seval,hdx];clear hdx;refine aC.walk (S:=Unit) s.ps.length [1] [32] (fun i _=>[(6,.int .i64 i)]) (fun i _=>[]) (fun i _=>∀ j (hj:j < s.ps.length),j < i->sC s.aj s.ps[j]=true) () (by intros;omega) ?_ ?_ ?_
 ·simp only [go_sem,seval]<;>simp
 ·intro i _ hi hdi hw hI;have hm:=mQ s.ps hi;have hli:(i:Int) < (s.ps.length:Int):=by omega
  have e0:=kU hi hI;have e1:sC s.aj s.ps[i]=false->((s.ps.all (sC s.aj)&&s.calls.all (oN s.aj))&&R)=false:=fun h=>by simp [q8 hi h]
  have e2:sC s.aj s.ps[i]=((!(bB s.aj s.ps[i].who==0)&&!(bB s.aj s.ps[i].who==3))&&ju s.aj s.ps[i].bE):=by simp only [sC,hop]
  have hA:=kH s.ps[i].bE;obtain ⟨g,hg⟩:=aL (eR av.a s.ps[i].bE ⟨0,0,0,0⟩ s.aj.xs);have hAe:decide (0<=fU av.a s.ps[i].bE s.aj.xs)=ju s.aj s.ps[i].bE:=rfl;rw [<- hg,hAe] at hA;simp only [av.cells] at hA;rw [e2] at e0 e1;clear e2;simp only [go_sem,seval,hdi,hm];(with_reducible and_intros)<;>first|exact .dq|omega|skip
  refine aa.pure (kS s.ps[i].who) ?_;simp only [go_sem,seval,hm];(with_reducible and_intros)<;>first|exact .dq|omega|skip
  refine aa.pure hA ?_;cases b1:bB s.aj s.ps[i].who==0
  case true =>
   simp only [go_sem,seval,b1];(with_reducible and_intros)<;>first|exact .dq|omega|skip
   exact (e1 (by simp [b1])).symm
  cases b2:bB s.aj s.ps[i].who==3
  case true =>
   simp only [go_sem,seval,b1,b2];(with_reducible and_intros)<;>first|exact .dq|omega|skip
   exact (e1 (by simp [b2])).symm
  cases b3:ju s.aj s.ps[i].bE
  ·simp only [go_sem,seval,b1,b2,b3];(with_reducible and_intros)<;>first|exact .dq|omega|skip
   exact (e1 (by simp [b3])).symm
  simp only [go_sem,seval,b1,b2,b3,hw];(with_reducible and_intros)<;>first|exact .dq|omega|skip
  refine ah.step () hi (e0 (by simp [b1,b2,b3])) ?_;simp only [go_sem,seval]
 intro _ hdx hI;have hA:=nu hI;rw [hA,Bool.true_and];clear hA hI;simp only [go_sem,seval,hdx,aG];clear hdx;refine aC.walk (S:=Unit) s.calls.length [1] [32] (fun i _=>[(10,.int .i64 i)]) (fun i _=>[]) (fun i _=>∀ j (hj:j < s.calls.length),j < i->oN s.aj s.calls[j]=true) () (by intros;omega) ?_ ?_ ?_
 ·simp only [go_sem,seval]<;>simp
 ·intro i _ hi hdi hw hI;have hm:=aD (c:=aB.cells) s.calls hi;have hli:(i:Int) < (s.calls.length:Int):=by omega
  have e0:=kU hi hI;have e1:oN s.aj s.calls[i]=false->(s.calls.all (oN s.aj)&&R)=false:=fun h=>by simp [q8 hi h]
  simp only [aB.cells] at hm;simp only [go_sem,seval,hdi,aG,hm];(with_reducible and_intros)<;>first|exact .dq|omega|skip
  refine aa.pure (kS s.calls[i].who) ?_;cases b1:bB s.aj s.calls[i].who==1
  ·simp only [go_sem,seval,bne,b1];exact (e1 b1).symm
  simp only [go_sem,seval,bne,b1,hw];refine ah.step () hi (e0 b1) ?_;simp only [go_sem,seval]
 intro _ hdx hI;have hA:=nu hI;rw [hA,Bool.true_and,hR,<- Bool.and_assoc];clear hA hI hR;simp only [go_sem,seval,hdx,aG];refine aa.pure c7 ?_;cases b7:(!decide (32 < (s.aW.length:Int))&&s.aW.all j9)
 ·simp only [go_sem,seval,Bool.false_and]
 simp only [go_sem,seval];refine aa.pure c8 ?_;simp only [go_sem,seval,Bool.true_and]
theorem Spec.Hx {P:Program} {f:FuncId} {hs ds ds' hs':List D} {d:D} (h:Abs.Spec P f hs ds hs' d) (hl:kV (fun _=>none) (fun _=>false) ds' ds):Abs.Spec P f hs ds' hs' d:=by
 obtain ⟨h1,h2⟩:=xy hl;refine ⟨h.1,?_⟩;intro w l0 G0 own0 S0 vs hT hl0 hG hsz hr hobj;refine h.2 w l0 G0 own0 S0 vs hT hl0 hG (by rw [hsz,h1]) ?_ hobj;intro i v y hv hy;have hi:i < ds'.length:=by rw [h1];exact (List.getElem?_eq_some_iff.1 hy).1
 have hx:ds'[i]?=some ds'[i]:=List.getElem?_eq_getElem hi;exact jf.rep (C:=cx w l0 S0) (C':=cx w l0 S0) (fun _ _ h=>h) (by intro s r h;cases h) (by intro s _ h;cases h) (hr i v _ hv hx) (h2 i _ _ hx hy)
theorem CN (xs ys:List ak) (hl:xs.length < 4611686018427387904):Abs.Spec Tryz.prog 14 [] [.sl 3 (xs.map ak.cells),.sl 3 (ys.map ak.cells)] [] (.bool (decide (xs=ys))):=by
 refine bg 26 2 [.tmp 4] mixed Tryz.func14 ?_;simp only [go_sem,seval,aG]
 by_cases hlen:xs.length=ys.length
 case neg =>
  have b:((xs.length:Int)==(ys.length:Int))=false:=by rw [beq_eq_false_iff_ne];omega
  have e:decide (xs=ys)=false:=decide_eq_false fun h=>hlen (by rw [h])
  simp only [go_sem,seval,bne,b,e]
 have b:((xs.length:Int)==(ys.length:Int))=true:=by rw [beq_iff_eq];omega
 simp only [go_sem,seval,bne,b,aG];refine aC.walk (S:=Unit) xs.length [0,1,12] [208] (fun i _=>[(13,.int .i64 i)]) (fun i _=>[]) (fun i _=>∀ j (h1:j < xs.length) (h2:j < ys.length),j < i->xs[j]=ys[j]) () (by intros;omega) ?_ ?_ ?_
 ·simp only [go_sem,seval]<;>simp
 ·intro i _ hi hdi hw hI;have hi2:i < ys.length:=by omega
  have hm:=aD (c:=ak.cells) xs hi;have hm2:=aD (c:=ak.cells) ys hi2;have e0:=jy hI hi hi2;have e1:xs[i]≠ys[i]->decide (xs=ys)=false:=fun h=>decide_eq_false fun e=>h (by subst e;rfl)
  have hl1:(i:Int) < (xs.length:Int):=by omega
  have hl2:(i:Int) < (ys.length:Int):=by omega
  obtain ⟨x,hx⟩:=aL (xs[i]);obtain ⟨y,hy⟩:=aL (ys[i]);rw [<- hx] at hm e0 e1;rw [<- hy] at hm2 e0 e1;simp only [ak.cells] at *;clear hx hy hI hlen;simp only [go_sem,seval,aG,hdi,hm,hm2]
  repeat' with_reducible first|apply And.intro|exact .dq|refine aa.pure (by assumption) ?_|refine .aM (fun h=>?_) fun h=>?_|refine .aK (fun h=>?_) fun h=>?_|refine .aO (fun h=>?_) fun h=>?_|refine .split (fun h=>?_) fun h=>?_|refine .id ?_|refine ah.next (by omega) ?_ ?_|exact trivial|simp only [*,go_sem,seval,hm,hm2,aG]
  all_goals first
   | omega
   | (refine ah.step () hi (e0 ?_) ?_
      ·clear e0 e1;cases x;cases y;simp_all;done
      ·simp only [go_sem,seval])
   | (rw [e1 ?_];clear e0 e1;cases x;cases y;simp_all;done)
 ·intro _ hdx hI;have e:decide (xs=ys)=true:=decide_eq_true (gZ hlen hI);simp only [go_sem,seval,aG,hdx,e]
theorem Gv (xs ys:List au) (hl:xs.length < 4611686018427387904):Abs.Spec Tryz.prog 15 [] [.sl 12 (xs.map au.cells),.sl 12 (ys.map au.cells)] [] (.bool (decide (xs=ys))):=by
 refine bg 26 2 [.tmp 4] mixed Tryz.func15 ?_;simp only [go_sem,seval,aG]
 by_cases hlen:xs.length=ys.length
 case neg =>
  have b:((xs.length:Int)==(ys.length:Int))=false:=by rw [beq_eq_false_iff_ne];omega
  have e:decide (xs=ys)=false:=decide_eq_false fun h=>hlen (by rw [h])
  simp only [go_sem,seval,bne,b,e]
 have b:((xs.length:Int)==(ys.length:Int))=true:=by rw [beq_iff_eq];omega
 simp only [go_sem,seval,bne,b,aG];refine aC.walk (S:=Unit) xs.length [0,1,12] [208] (fun i _=>[(13,.int .i64 i)]) (fun i _=>[]) (fun i _=>∀ j (h1:j < xs.length) (h2:j < ys.length),j < i->xs[j]=ys[j]) () (by intros;omega) ?_ ?_ ?_
 ·simp only [go_sem,seval]<;>simp
 ·intro i _ hi hdi hw hI;have hi2:i < ys.length:=by omega
  have hm:=aD (c:=au.cells) xs hi;have hm2:=aD (c:=au.cells) ys hi2;have e0:=jy hI hi hi2;have e1:xs[i]≠ys[i]->decide (xs=ys)=false:=fun h=>decide_eq_false fun e=>h (by subst e;rfl)
  have hl1:(i:Int) < (xs.length:Int):=by omega
  have hl2:(i:Int) < (ys.length:Int):=by omega
  obtain ⟨x,hx⟩:=aL (xs[i]);obtain ⟨y,hy⟩:=aL (ys[i]);rw [<- hx] at hm e0 e1;rw [<- hy] at hm2 e0 e1;simp only [au.cells] at *;clear hx hy hI hlen;simp only [go_sem,seval,aG,hdi,hm,hm2]
  repeat' with_reducible first|apply And.intro|exact .dq|refine aa.pure (by assumption) ?_|refine .aM (fun h=>?_) fun h=>?_|refine .aK (fun h=>?_) fun h=>?_|refine .aO (fun h=>?_) fun h=>?_|refine .split (fun h=>?_) fun h=>?_|refine .id ?_|refine ah.next (by omega) ?_ ?_|exact trivial|simp only [*,go_sem,seval,hm,hm2,aG]
  all_goals first
   | omega
   | (refine ah.step () hi (e0 ?_) ?_
      ·clear e0 e1;cases x;cases y;simp_all;done
      ·simp only [go_sem,seval])
   | (rw [e1 ?_];clear e0 e1;cases x;cases y;simp_all;done)
 ·intro _ hdx hI;have e:decide (xs=ys)=true:=decide_eq_true (gZ hlen hI);simp only [go_sem,seval,aG,hdx,e]
theorem Ei (xs ys:List av) (hl:xs.length < 4611686018427387904):Abs.Spec Tryz.prog 16 [] [.sl 4 (xs.map av.cells),.sl 4 (ys.map av.cells)] [] (.bool (decide (xs=ys))):=by
 refine bg 26 2 [.tmp 4] mixed Tryz.func16 ?_;simp only [go_sem,seval,aG]
 by_cases hlen:xs.length=ys.length
 case neg =>
  have b:((xs.length:Int)==(ys.length:Int))=false:=by rw [beq_eq_false_iff_ne];omega
  have e:decide (xs=ys)=false:=decide_eq_false fun h=>hlen (by rw [h])
  simp only [go_sem,seval,bne,b,e]
 have b:((xs.length:Int)==(ys.length:Int))=true:=by rw [beq_iff_eq];omega
 simp only [go_sem,seval,bne,b,aG];refine aC.walk (S:=Unit) xs.length [0,1,12] [208] (fun i _=>[(13,.int .i64 i)]) (fun i _=>[]) (fun i _=>∀ j (h1:j < xs.length) (h2:j < ys.length),j < i->xs[j]=ys[j]) () (by intros;omega) ?_ ?_ ?_
 ·simp only [go_sem,seval]<;>simp
 ·intro i _ hi hdi hw hI;have hi2:i < ys.length:=by omega
  have hm:=aD (c:=av.cells) xs hi;have hm2:=aD (c:=av.cells) ys hi2;have e0:=jy hI hi hi2;have e1:xs[i]≠ys[i]->decide (xs=ys)=false:=fun h=>decide_eq_false fun e=>h (by subst e;rfl)
  have hl1:(i:Int) < (xs.length:Int):=by omega
  have hl2:(i:Int) < (ys.length:Int):=by omega
  obtain ⟨x,hx⟩:=aL (xs[i]);obtain ⟨y,hy⟩:=aL (ys[i]);rw [<- hx] at hm e0 e1;rw [<- hy] at hm2 e0 e1;simp only [av.cells] at *;clear hx hy hI hlen;simp only [go_sem,seval,aG,hdi,hm,hm2]
  repeat' with_reducible first|apply And.intro|exact .dq|refine aa.pure (by assumption) ?_|refine .aM (fun h=>?_) fun h=>?_|refine .aK (fun h=>?_) fun h=>?_|refine .aO (fun h=>?_) fun h=>?_|refine .split (fun h=>?_) fun h=>?_|refine .id ?_|refine ah.next (by omega) ?_ ?_|exact trivial|simp only [*,go_sem,seval,hm,hm2,aG]
  all_goals first
   | omega
   | (refine ah.step () hi (e0 ?_) ?_
      ·clear e0 e1;cases x;cases y;simp_all;done
      ·simp only [go_sem,seval])
   | (rw [e1 ?_];clear e0 e1;cases x;cases y;simp_all;done)
 ·intro _ hdx hI;have e:decide (xs=ys)=true:=decide_eq_true (gZ hlen hI);simp only [go_sem,seval,aG,hdx,e]
theorem D5 (xs ys:List aI) (hl:xs.length < 4611686018427387904):Abs.Spec Tryz.prog 17 [] [.sl 7 (xs.map aI.cells),.sl 7 (ys.map aI.cells)] [] (.bool (decide (xs=ys))):=by
 refine bg 26 2 [.tmp 4] mixed Tryz.func17 ?_;simp only [go_sem,seval,aG]
 by_cases hlen:xs.length=ys.length
 case neg =>
  have b:((xs.length:Int)==(ys.length:Int))=false:=by rw [beq_eq_false_iff_ne];omega
  have e:decide (xs=ys)=false:=decide_eq_false fun h=>hlen (by rw [h])
  simp only [go_sem,seval,bne,b,e]
 have b:((xs.length:Int)==(ys.length:Int))=true:=by rw [beq_iff_eq];omega
 simp only [go_sem,seval,bne,b,aG];refine aC.walk (S:=Unit) xs.length [0,1,12] [208] (fun i _=>[(13,.int .i64 i)]) (fun i _=>[]) (fun i _=>∀ j (h1:j < xs.length) (h2:j < ys.length),j < i->xs[j]=ys[j]) () (by intros;omega) ?_ ?_ ?_
 ·simp only [go_sem,seval]<;>simp
 ·intro i _ hi hdi hw hI;have hi2:i < ys.length:=by omega
  have hm:=aD (c:=aI.cells) xs hi;have hm2:=aD (c:=aI.cells) ys hi2;have e0:=jy hI hi hi2;have e1:xs[i]≠ys[i]->decide (xs=ys)=false:=fun h=>decide_eq_false fun e=>h (by subst e;rfl)
  have hl1:(i:Int) < (xs.length:Int):=by omega
  have hl2:(i:Int) < (ys.length:Int):=by omega
  obtain ⟨x,hx⟩:=aL (xs[i]);obtain ⟨y,hy⟩:=aL (ys[i]);rw [<- hx] at hm e0 e1;rw [<- hy] at hm2 e0 e1;simp only [aI.cells] at *;clear hx hy hI hlen;simp only [go_sem,seval,aG,hdi,hm,hm2]
  repeat' with_reducible first|apply And.intro|exact .dq|refine aa.pure (by assumption) ?_|refine .aM (fun h=>?_) fun h=>?_|refine .aK (fun h=>?_) fun h=>?_|refine .aO (fun h=>?_) fun h=>?_|refine .split (fun h=>?_) fun h=>?_|refine .id ?_|refine ah.next (by omega) ?_ ?_|exact trivial|simp only [*,go_sem,seval,hm,hm2,aG]
  all_goals first
   | omega
   | (refine ah.step () hi (e0 ?_) ?_
      ·clear e0 e1;cases x;cases y;simp_all;done
      ·simp only [go_sem,seval])
   | (rw [e1 ?_];clear e0 e1;cases x;cases y;simp_all;done)
 ·intro _ hdx hI;have e:decide (xs=ys)=true:=decide_eq_true (gZ hlen hI);simp only [go_sem,seval,aG,hdx,e]
theorem Jv (xs ys:List aA) (hl:xs.length < 4611686018427387904):Abs.Spec Tryz.prog 18 [] [.sl 4 (xs.map aA.cells),.sl 4 (ys.map aA.cells)] [] (.bool (decide (xs=ys))):=by
 refine bg 26 2 [.tmp 4] mixed Tryz.func18 ?_;simp only [go_sem,seval,aG]
 by_cases hlen:xs.length=ys.length
 case neg =>
  have b:((xs.length:Int)==(ys.length:Int))=false:=by rw [beq_eq_false_iff_ne];omega
  have e:decide (xs=ys)=false:=decide_eq_false fun h=>hlen (by rw [h])
  simp only [go_sem,seval,bne,b,e]
 have b:((xs.length:Int)==(ys.length:Int))=true:=by rw [beq_iff_eq];omega
 simp only [go_sem,seval,bne,b,aG];refine aC.walk (S:=Unit) xs.length [0,1,12] [208] (fun i _=>[(13,.int .i64 i)]) (fun i _=>[]) (fun i _=>∀ j (h1:j < xs.length) (h2:j < ys.length),j < i->xs[j]=ys[j]) () (by intros;omega) ?_ ?_ ?_
 ·simp only [go_sem,seval]<;>simp
 ·intro i _ hi hdi hw hI;have hi2:i < ys.length:=by omega
  have hm:=aD (c:=aA.cells) xs hi;have hm2:=aD (c:=aA.cells) ys hi2;have e0:=jy hI hi hi2;have e1:xs[i]≠ys[i]->decide (xs=ys)=false:=fun h=>decide_eq_false fun e=>h (by subst e;rfl)
  have hl1:(i:Int) < (xs.length:Int):=by omega
  have hl2:(i:Int) < (ys.length:Int):=by omega
  obtain ⟨x,hx⟩:=aL (xs[i]);obtain ⟨y,hy⟩:=aL (ys[i]);rw [<- hx] at hm e0 e1;rw [<- hy] at hm2 e0 e1;simp only [aA.cells] at *;clear hx hy hI hlen;simp only [go_sem,seval,aG,hdi,hm,hm2]
  repeat' with_reducible first|apply And.intro|exact .dq|refine aa.pure (by assumption) ?_|refine .aM (fun h=>?_) fun h=>?_|refine .aK (fun h=>?_) fun h=>?_|refine .aO (fun h=>?_) fun h=>?_|refine .split (fun h=>?_) fun h=>?_|refine .id ?_|refine ah.next (by omega) ?_ ?_|exact trivial|simp only [*,go_sem,seval,hm,hm2,aG]
  all_goals first
   | omega
   | (refine ah.step () hi (e0 ?_) ?_
      ·clear e0 e1;cases x;cases y;simp_all;done
      ·simp only [go_sem,seval])
   | (rw [e1 ?_];clear e0 e1;cases x;cases y;simp_all;done)
 ·intro _ hdx hI;have e:decide (xs=ys)=true:=decide_eq_true (gZ hlen hI);simp only [go_sem,seval,aG,hdx,e]
theorem JQ (xs ys:List bp) (hl:xs.length < 4611686018427387904):Abs.Spec Tryz.prog 19 [] [.sl 4 (xs.map bp.cells),.sl 4 (ys.map bp.cells)] [] (.bool (decide (xs=ys))):=by
 refine bg 26 2 [.tmp 4] mixed Tryz.func19 ?_;simp only [go_sem,seval,aG]
 by_cases hlen:xs.length=ys.length
 case neg =>
  have b:((xs.length:Int)==(ys.length:Int))=false:=by rw [beq_eq_false_iff_ne];omega
  have e:decide (xs=ys)=false:=decide_eq_false fun h=>hlen (by rw [h])
  simp only [go_sem,seval,bne,b,e]
 have b:((xs.length:Int)==(ys.length:Int))=true:=by rw [beq_iff_eq];omega
 simp only [go_sem,seval,bne,b,aG];refine aC.walk (S:=Unit) xs.length [0,1,12] [208] (fun i _=>[(13,.int .i64 i)]) (fun i _=>[]) (fun i _=>∀ j (h1:j < xs.length) (h2:j < ys.length),j < i->xs[j]=ys[j]) () (by intros;omega) ?_ ?_ ?_
 ·simp only [go_sem,seval]<;>simp
 ·intro i _ hi hdi hw hI;have hi2:i < ys.length:=by omega
  have hm:=aD (c:=bp.cells) xs hi;have hm2:=aD (c:=bp.cells) ys hi2;have e0:=jy hI hi hi2;have e1:xs[i]≠ys[i]->decide (xs=ys)=false:=fun h=>decide_eq_false fun e=>h (by subst e;rfl)
  have hl1:(i:Int) < (xs.length:Int):=by omega
  have hl2:(i:Int) < (ys.length:Int):=by omega
  obtain ⟨x,hx⟩:=aL (xs[i]);obtain ⟨y,hy⟩:=aL (ys[i]);rw [<- hx] at hm e0 e1;rw [<- hy] at hm2 e0 e1;simp only [bp.cells] at *;clear hx hy hI hlen;simp only [go_sem,seval,aG,hdi,hm,hm2]
  repeat' with_reducible first|apply And.intro|exact .dq|refine aa.pure (by assumption) ?_|refine .aM (fun h=>?_) fun h=>?_|refine .aK (fun h=>?_) fun h=>?_|refine .aO (fun h=>?_) fun h=>?_|refine .split (fun h=>?_) fun h=>?_|refine .id ?_|refine ah.next (by omega) ?_ ?_|exact trivial|simp only [*,go_sem,seval,hm,hm2,aG]
  all_goals first
   | omega
   | (refine ah.step () hi (e0 ?_) ?_
      ·clear e0 e1;cases x;cases y;simp_all;done
      ·simp only [go_sem,seval])
   | (rw [e1 ?_];clear e0 e1;cases x;cases y;simp_all;done)
 ·intro _ hdx hI;have e:decide (xs=ys)=true:=decide_eq_true (gZ hlen hI);simp only [go_sem,seval,aG,hdx,e]
theorem LY (xs ys:List eO) (hl:xs.length < 4611686018427387904):Abs.Spec Tryz.prog 20 [] [.sl 3 (xs.map eO.cells),.sl 3 (ys.map eO.cells)] [] (.bool (decide (xs=ys))):=by
 refine bg 26 2 [.tmp 4] mixed Tryz.func20 ?_;simp only [go_sem,seval,aG]
 by_cases hlen:xs.length=ys.length
 case neg =>
  have b:((xs.length:Int)==(ys.length:Int))=false:=by rw [beq_eq_false_iff_ne];omega
  have e:decide (xs=ys)=false:=decide_eq_false fun h=>hlen (by rw [h])
  simp only [go_sem,seval,bne,b,e]
 have b:((xs.length:Int)==(ys.length:Int))=true:=by rw [beq_iff_eq];omega
 simp only [go_sem,seval,bne,b,aG];refine aC.walk (S:=Unit) xs.length [0,1,12] [208] (fun i _=>[(13,.int .i64 i)]) (fun i _=>[]) (fun i _=>∀ j (h1:j < xs.length) (h2:j < ys.length),j < i->xs[j]=ys[j]) () (by intros;omega) ?_ ?_ ?_
 ·simp only [go_sem,seval]<;>simp
 ·intro i _ hi hdi hw hI;have hi2:i < ys.length:=by omega
  have hm:=aD (c:=eO.cells) xs hi;have hm2:=aD (c:=eO.cells) ys hi2;have e0:=jy hI hi hi2;have e1:xs[i]≠ys[i]->decide (xs=ys)=false:=fun h=>decide_eq_false fun e=>h (by subst e;rfl)
  have hl1:(i:Int) < (xs.length:Int):=by omega
  have hl2:(i:Int) < (ys.length:Int):=by omega
  obtain ⟨x,hx⟩:=aL (xs[i]);obtain ⟨y,hy⟩:=aL (ys[i]);rw [<- hx] at hm e0 e1;rw [<- hy] at hm2 e0 e1;simp only [eO.cells] at *;clear hx hy hI hlen;simp only [go_sem,seval,aG,hdi,hm,hm2]
  repeat' with_reducible first|apply And.intro|exact .dq|refine aa.pure (by assumption) ?_|refine .aM (fun h=>?_) fun h=>?_|refine .aK (fun h=>?_) fun h=>?_|refine .aO (fun h=>?_) fun h=>?_|refine .split (fun h=>?_) fun h=>?_|refine .id ?_|refine ah.next (by omega) ?_ ?_|exact trivial|simp only [*,go_sem,seval,hm,hm2,aG]
  all_goals first
   | omega
   | (refine ah.step () hi (e0 ?_) ?_
      ·clear e0 e1;cases x;cases y;simp_all;done
      ·simp only [go_sem,seval])
   | (rw [e1 ?_];clear e0 e1;cases x;cases y;simp_all;done)
 ·intro _ hdx hI;have e:decide (xs=ys)=true:=decide_eq_true (gZ hlen hI);simp only [go_sem,seval,aG,hdx,e]
theorem Ge (xs ys:List aB) (hl:xs.length < 4611686018427387904):Abs.Spec Tryz.prog 21 [] [.sl 4 (xs.map aB.cells),.sl 4 (ys.map aB.cells)] [] (.bool (decide (xs=ys))):=by
 refine bg 26 2 [.tmp 4] mixed Tryz.func21 ?_;simp only [go_sem,seval,aG]
 by_cases hlen:xs.length=ys.length
 case neg =>
  have b:((xs.length:Int)==(ys.length:Int))=false:=by rw [beq_eq_false_iff_ne];omega
  have e:decide (xs=ys)=false:=decide_eq_false fun h=>hlen (by rw [h])
  simp only [go_sem,seval,bne,b,e]
 have b:((xs.length:Int)==(ys.length:Int))=true:=by rw [beq_iff_eq];omega
 simp only [go_sem,seval,bne,b,aG];refine aC.walk (S:=Unit) xs.length [0,1,12] [208] (fun i _=>[(13,.int .i64 i)]) (fun i _=>[]) (fun i _=>∀ j (h1:j < xs.length) (h2:j < ys.length),j < i->xs[j]=ys[j]) () (by intros;omega) ?_ ?_ ?_
 ·simp only [go_sem,seval]<;>simp
 ·intro i _ hi hdi hw hI;have hi2:i < ys.length:=by omega
  have hm:=aD (c:=aB.cells) xs hi;have hm2:=aD (c:=aB.cells) ys hi2;have e0:=jy hI hi hi2;have e1:xs[i]≠ys[i]->decide (xs=ys)=false:=fun h=>decide_eq_false fun e=>h (by subst e;rfl)
  have hl1:(i:Int) < (xs.length:Int):=by omega
  have hl2:(i:Int) < (ys.length:Int):=by omega
  obtain ⟨x,hx⟩:=aL (xs[i]);obtain ⟨y,hy⟩:=aL (ys[i]);rw [<- hx] at hm e0 e1;rw [<- hy] at hm2 e0 e1;simp only [aB.cells] at *;clear hx hy hI hlen;simp only [go_sem,seval,aG,hdi,hm,hm2]
  repeat' with_reducible first|apply And.intro|exact .dq|refine aa.pure (by assumption) ?_|refine .aM (fun h=>?_) fun h=>?_|refine .aK (fun h=>?_) fun h=>?_|refine .aO (fun h=>?_) fun h=>?_|refine .split (fun h=>?_) fun h=>?_|refine .id ?_|refine ah.next (by omega) ?_ ?_|exact trivial|simp only [*,go_sem,seval,hm,hm2,aG]
  all_goals first
   | omega
   | (refine ah.step () hi (e0 ?_) ?_
      ·clear e0 e1;cases x;cases y;simp_all;done
      ·simp only [go_sem,seval])
   | (rw [e1 ?_];clear e0 e1;cases x;cases y;simp_all;done)
 ·intro _ hdx hI;have e:decide (xs=ys)=true:=decide_eq_true (gZ hlen hI);simp only [go_sem,seval,aG,hdx,e]
theorem JK (xs ys:List br) (hl:xs.length < 4611686018427387904):Abs.Spec Tryz.prog 22 [] [.sl 5 (xs.map br.cells),.sl 5 (ys.map br.cells)] [] (.bool (decide (xs=ys))):=by
 refine bg 26 2 [.tmp 4] mixed Tryz.func22 ?_;simp only [go_sem,seval,aG]
 by_cases hlen:xs.length=ys.length
 case neg =>
  have b:((xs.length:Int)==(ys.length:Int))=false:=by rw [beq_eq_false_iff_ne];omega
  have e:decide (xs=ys)=false:=decide_eq_false fun h=>hlen (by rw [h])
  simp only [go_sem,seval,bne,b,e]
 have b:((xs.length:Int)==(ys.length:Int))=true:=by rw [beq_iff_eq];omega
 simp only [go_sem,seval,bne,b,aG];refine aC.walk (S:=Unit) xs.length [0,1,12] [208] (fun i _=>[(13,.int .i64 i)]) (fun i _=>[]) (fun i _=>∀ j (h1:j < xs.length) (h2:j < ys.length),j < i->xs[j]=ys[j]) () (by intros;omega) ?_ ?_ ?_
 ·simp only [go_sem,seval]<;>simp
 ·intro i _ hi hdi hw hI;have hi2:i < ys.length:=by omega
  have hm:=aD (c:=br.cells) xs hi;have hm2:=aD (c:=br.cells) ys hi2;have e0:=jy hI hi hi2;have e1:xs[i]≠ys[i]->decide (xs=ys)=false:=fun h=>decide_eq_false fun e=>h (by subst e;rfl)
  have hl1:(i:Int) < (xs.length:Int):=by omega
  have hl2:(i:Int) < (ys.length:Int):=by omega
  obtain ⟨x,hx⟩:=aL (xs[i]);obtain ⟨y,hy⟩:=aL (ys[i]);rw [<- hx] at hm e0 e1;rw [<- hy] at hm2 e0 e1;simp only [br.cells] at *;clear hx hy hI hlen;simp only [go_sem,seval,aG,hdi,hm,hm2]
  repeat' with_reducible first|apply And.intro|exact .dq|refine aa.pure (by assumption) ?_|refine .aM (fun h=>?_) fun h=>?_|refine .aK (fun h=>?_) fun h=>?_|refine .aO (fun h=>?_) fun h=>?_|refine .split (fun h=>?_) fun h=>?_|refine .id ?_|refine ah.next (by omega) ?_ ?_|exact trivial|simp only [*,go_sem,seval,hm,hm2,aG]
  all_goals first
   | omega
   | (refine ah.step () hi (e0 ?_) ?_
      ·clear e0 e1;cases x;cases y;simp_all;done
      ·simp only [go_sem,seval])
   | (rw [e1 ?_];clear e0 e1;cases x;cases y;simp_all;done)
 ·intro _ hdx hI;have e:decide (xs=ys)=true:=decide_eq_true (gZ hlen hI);simp only [go_sem,seval,aG,hdx,e]
theorem II (xs ys:List aN) (hl:xs.length < 4611686018427387904):Abs.Spec Tryz.prog 33 [] [.sl 3 (xs.map aN.cells),.sl 3 (ys.map aN.cells)] [] (.bool (decide (xs=ys))):=by
 refine bg 26 2 [.tmp 4] mixed Tryz.func33 ?_;simp only [go_sem,seval,aG]
 by_cases hlen:xs.length=ys.length
 case neg =>
  have b:((xs.length:Int)==(ys.length:Int))=false:=by rw [beq_eq_false_iff_ne];omega
  have e:decide (xs=ys)=false:=decide_eq_false fun h=>hlen (by rw [h])
  simp only [go_sem,seval,bne,b,e]
 have b:((xs.length:Int)==(ys.length:Int))=true:=by rw [beq_iff_eq];omega
 simp only [go_sem,seval,bne,b,aG];refine aC.walk (S:=Unit) xs.length [0,1,12] [208] (fun i _=>[(13,.int .i64 i)]) (fun i _=>[]) (fun i _=>∀ j (h1:j < xs.length) (h2:j < ys.length),j < i->xs[j]=ys[j]) () (by intros;omega) ?_ ?_ ?_
 ·simp only [go_sem,seval]<;>simp
 ·intro i _ hi hdi hw hI;have hi2:i < ys.length:=by omega
  have hm:=aD (c:=aN.cells) xs hi;have hm2:=aD (c:=aN.cells) ys hi2;have e0:=jy hI hi hi2;have e1:xs[i]≠ys[i]->decide (xs=ys)=false:=fun h=>decide_eq_false fun e=>h (by subst e;rfl)
  have hl1:(i:Int) < (xs.length:Int):=by omega
  have hl2:(i:Int) < (ys.length:Int):=by omega
  obtain ⟨x,hx⟩:=aL (xs[i]);obtain ⟨y,hy⟩:=aL (ys[i]);rw [<- hx] at hm e0 e1;rw [<- hy] at hm2 e0 e1;simp only [aN.cells] at *;clear hx hy hI hlen;simp only [go_sem,seval,aG,hdi,hm,hm2]
  repeat' with_reducible first|apply And.intro|exact .dq|refine aa.pure (by assumption) ?_|refine .aM (fun h=>?_) fun h=>?_|refine .aK (fun h=>?_) fun h=>?_|refine .aO (fun h=>?_) fun h=>?_|refine .split (fun h=>?_) fun h=>?_|refine .id ?_|refine ah.next (by omega) ?_ ?_|exact trivial|simp only [*,go_sem,seval,hm,hm2,aG]
  all_goals first
   | omega
   | (refine ah.step () hi (e0 ?_) ?_
      ·clear e0 e1;cases x;cases y;simp_all;done
      ·simp only [go_sem,seval])
   | (rw [e1 ?_];clear e0 e1;cases x;cases y;simp_all;done)
 ·intro _ hdx hI;have e:decide (xs=ys)=true:=decide_eq_true (gZ hlen hI);simp only [go_sem,seval,aG,hdx,e]
theorem Gk (xs ys:List dO) (hl:xs.length < 4611686018427387904):Abs.Spec Tryz.prog 34 [] [.sl 8 (xs.map dO.cells),.sl 8 (ys.map dO.cells)] [] (.bool (decide (xs=ys))):=by
 refine bg 26 2 [.tmp 4] mixed Tryz.func34 ?_;simp only [go_sem,seval,aG]
 by_cases hlen:xs.length=ys.length
 case neg =>
  have b:((xs.length:Int)==(ys.length:Int))=false:=by rw [beq_eq_false_iff_ne];omega
  have e:decide (xs=ys)=false:=decide_eq_false fun h=>hlen (by rw [h])
  simp only [go_sem,seval,bne,b,e]
 have b:((xs.length:Int)==(ys.length:Int))=true:=by rw [beq_iff_eq];omega
 simp only [go_sem,seval,bne,b,aG];refine aC.walk (S:=Unit) xs.length [0,1,12] [208] (fun i _=>[(13,.int .i64 i)]) (fun i _=>[]) (fun i _=>∀ j (h1:j < xs.length) (h2:j < ys.length),j < i->xs[j]=ys[j]) () (by intros;omega) ?_ ?_ ?_
 ·simp only [go_sem,seval]<;>simp
 ·intro i _ hi hdi hw hI;have hi2:i < ys.length:=by omega
  have hm:=aD (c:=dO.cells) xs hi;have hm2:=aD (c:=dO.cells) ys hi2;have e0:=jy hI hi hi2;have e1:xs[i]≠ys[i]->decide (xs=ys)=false:=fun h=>decide_eq_false fun e=>h (by subst e;rfl)
  have hl1:(i:Int) < (xs.length:Int):=by omega
  have hl2:(i:Int) < (ys.length:Int):=by omega
  obtain ⟨x,hx⟩:=aL (xs[i]);obtain ⟨y,hy⟩:=aL (ys[i]);rw [<- hx] at hm e0 e1;rw [<- hy] at hm2 e0 e1;simp only [dO.cells] at *;clear hx hy hI hlen;simp only [go_sem,seval,aG,hdi,hm,hm2]
  repeat' with_reducible first|apply And.intro|exact .dq|refine aa.pure (by assumption) ?_|refine .aM (fun h=>?_) fun h=>?_|refine .aK (fun h=>?_) fun h=>?_|refine .aO (fun h=>?_) fun h=>?_|refine .split (fun h=>?_) fun h=>?_|refine .id ?_|refine ah.next (by omega) ?_ ?_|exact trivial|simp only [*,go_sem,seval,hm,hm2,aG]
  all_goals first
   | omega
   | (refine ah.step () hi (e0 ?_) ?_
      ·clear e0 e1;cases x;cases y;simp_all;done
      ·simp only [go_sem,seval])
   | (rw [e1 ?_];clear e0 e1;cases x;cases y;simp_all;done)
 ·intro _ hdx hI;have e:decide (xs=ys)=true:=decide_eq_true (gZ hlen hI);simp only [go_sem,seval,aG,hdx,e]
theorem HA (a b:bD) (h1:a.r.DI.length < 4611686018427387904) (h2:a.r.falls.length < 4611686018427387904):Abs.Spec Tryz.prog 32 [] [.agg a.cells,.agg b.cells] [] (.bool (decide (a=b))):=by
 have c1:=II a.r.DI b.r.DI h1;have c2:=Gk a.r.falls b.r.falls h2;simp only [bD.cells];refine bg 62 2 [.tmp 4] mixed Tryz.func32 ?_;simp only [go_sem,seval]
 repeat' with_reducible first|apply And.intro|exact .dq|refine aa.pure (by assumption) ?_|refine aa.pure (c1) ?_|refine aa.pure (c2) ?_|refine .aM (fun h=>?_) fun h=>?_|refine .aK (fun h=>?_) fun h=>?_|refine .aO (fun h=>?_) fun h=>?_|refine .split (fun h=>?_) fun h=>?_|refine .id ?_|refine ah.next (by omega) ?_ ?_|exact trivial|simp only [*,go_sem,seval]
 all_goals (rw [Bool.eq_iff_iff];obtain ⟨x1,x2,⟨x3,x4,x5,x6,x7⟩⟩:=a;obtain ⟨y1,y2,⟨y3,y4,y5,y6,y7⟩⟩:=b;simp_all)
theorem Gy (xs ys:List bD) (hl:xs.length < 4611686018427387904) (hq:∀ x∈xs,x.r.DI.length < 4611686018427387904/\x.r.falls.length < 4611686018427387904):Abs.Spec Tryz.prog 31 [] [.sl 7 (xs.map bD.cells),.sl 7 (ys.map bD.cells),.fn 32 []] [] (.bool (decide (xs=ys))):=by
 refine bg 32 3 [.tmp 6] mixed Tryz.func31 ?_;simp only [go_sem,seval,aG]
 by_cases hlen:xs.length=ys.length
 case neg =>
  have b:((xs.length:Int)==(ys.length:Int))=false:=by rw [beq_eq_false_iff_ne];omega
  have e:decide (xs=ys)=false:=decide_eq_false fun h=>hlen (by rw [h])
  simp only [go_sem,seval,bne,b,e]
 have b:((xs.length:Int)==(ys.length:Int))=true:=by rw [beq_iff_eq];omega
 simp only [go_sem,seval,bne,b,aG];refine aC.walk (S:=Unit) xs.length [1,2,15,16] [] (fun i _=>[(17,.int .i64 i)]) (fun i _=>[]) (fun i _=>∀ j (h1:j < xs.length) (h2:j < ys.length),j < i->xs[j]=ys[j]) () (by intros;omega) ?_ ?_ ?_
 ·simp only [go_sem,seval]<;>simp
 ·intro i _ hi hdi hw hI;have hi2:i < ys.length:=by omega
  have hm:=aD (c:=bD.cells) xs hi;have hm2:=aD (c:=bD.cells) ys hi2;have e0:=jy hI hi hi2;have e1:xs[i]≠ys[i]->decide (xs=ys)=false:=fun h=>decide_eq_false fun e=>h (by subst e;rfl)
  have hl2:(i:Int) < (ys.length:Int):=by omega
  have hc:=HA xs[i] ys[i] (hq _ (List.getElem_mem hi)).1 (hq _ (List.getElem_mem hi)).2;simp only [bD.cells] at hm hm2 hc;simp only [go_sem,seval,aG,hdi,hm,hm2];(with_reducible and_intros)<;>first|exact .dq|omega|skip
  refine aa.pure hc ?_
  by_cases he:xs[i]=ys[i]
  ·have d:decide (xs[i]=ys[i])=true:=decide_eq_true he;simp only [go_sem,seval,d,hw];refine ah.step () hi (e0 he) ?_;simp only [go_sem,seval]
  ·have d:decide (xs[i]=ys[i])=false:=decide_eq_false he;simp only [go_sem,seval,d,e1 he]
 ·intro _ hdx hI;have e:decide (xs=ys)=true:=decide_eq_true (gZ hlen hI);simp only [go_sem,seval,aG,hdx,e]
theorem Da (xs ys:List bD) (hl:xs.length < 4611686018427387904) (hq:∀ x∈xs,x.r.DI.length < 4611686018427387904/\x.r.falls.length < 4611686018427387904):Abs.Spec Tryz.prog 23 [] [.sl 7 (xs.map bD.cells),.sl 7 (ys.map bD.cells)] [] (.bool (decide (xs=ys))):=by
 have h:=Gy xs ys hl hq;refine bg 8 2 [.tmp 4] mixed Tryz.func23 ?_;simp only [go_sem,seval];refine aa.pure h ?_;simp only [go_sem,seval]
def qZ (s:af) (n:Int):Bool:=az (bR n s.book.qs)==0
def mZ (s:af) (c:Int):Bool:=az (nF c [] s.aU.bs)==0
def pZ (s:af) (c:Int):Bool:=az (ou c s.aU.bs++BV s.aj c s.book.qs)==0
def iq (s:af):Bool:=bu s&&((List.range 8).all (fun i=>qZ s ((i:Int)+1))&&(List.range 3).all (fun c=>mZ s (c:Nat)&&pZ s (c:Nat)))
theorem BP (S:Int):(Av S==0&&Ag S==0)=(S==0):=by
 rw [Bool.eq_iff_iff];simp only [Av,Ag,bW,beq_iff_eq];constructor
 ·rintro ⟨h1,h2⟩
  split at h1
  ·rename_i h;rw [if_pos h] at h2;exact h2
  ·cases h1
 ·rintro rfl
  exact ⟨rfl,rfl⟩
theorem Kb {n i:Nat} {f:Nat->Bool} (h:i < n) (hf:f i=false):(List.range n).all f=false:=by
 cases hc:(List.range n).all f
 ·rfl
 ·rw [List.all_eq_true.1 hc i (List.mem_range.2 h)] at hf;cases hf
theorem Ey {n:Nat} {f:Nat->Bool} (h:∀ i < n,f i=true):(List.range n).all f=true:=List.all_eq_true.2 fun i hi=>h i (List.mem_range.1 hi)
theorem lt_next {n:Nat} {f:Nat->Bool} (hI:∀ i < n,f i=true) (h:f n=true):∀ i < n+1,f i=true:=fun i hi=>by
 rcases Nat.lt_or_ge i n with h1 | h1
 ·exact hI i h1
 ·obtain rfl:i=n:=by omega
  exact h
structure af.mid (s:af):Prop where
 small:s.small
 bs:s.aU.bs.length < 2 ^ 20
 qs:s.book.qs.length < 2 ^ 20
 ns:s.aj.ns.length < 2 ^ 20
theorem JN (a b:au):Abs.Spec Tryz.prog 47 [] [.agg a.cells,.bF b.cells] [] (.bool (a.no==b.no)):=by
 simp only [au.cells];refine bg 9 2 [.tmp 3] mixed Tryz.func47 ?_;simp only [go_sem,seval]
theorem Bj (xs:List au) (x:au) (hl:xs.length < 2 ^ 60):Abs.Spec Tryz.prog 108 [] [.sl 12 (xs.map au.cells),.fn 47 [.bF x.cells]] [] (.int .i64 (fU au.no x.no xs)):=by
 have h:=fun a=>JN a x
 simp only [au.cells] at h |-;refine bg 19 2 [.tmp 4] mixed Tryz.func108 ?_;simp only [go_sem,seval,aG];refine aC.walk (S:=Unit) xs.length [0,1,7] [] (fun i _=>[(8,.int .i64 i)]) (fun i _=>[]) (fun i _=>∀ j (hj:j < xs.length),j < i->xs[j].no≠x.no) () (by intros;omega) ?_ ?_ ?_
 ·simp only [go_sem,seval]<;>simp
 ·intro i _ hi hdi hw hI;have hm:=aD (c:=au.cells) xs hi;have hli:(i:Int) < (xs.length:Int):=by omega
  have hc:=h xs[i];simp only [au.cells] at hm;simp only [go_sem,seval,hdi,aG,hm];(with_reducible and_intros)<;>first|exact .dq|omega|skip
  refine aa.pure hc ?_;cases hb:xs[i].no==x.no
  ·have hb2:xs[i].no≠x.no:=by simpa using hb
   simp only [go_sem,seval,hb,hw];refine ah.step () hi ?_ ?_
   ·intro j hj hji;rcases Nat.lt_or_ge j i with h | h
    ·exact hI j hj h
    ·obtain rfl:j=i:=by omega
     exact hb2
   ·simp only [go_sem,seval]
  ·have hb2:xs[i].no=x.no:=by simpa using hb
   obtain ⟨g1,g2⟩:=gX (z:=au.zero) hi hI hb2;rw [g2];simp only [go_sem,seval,hb]
 ·intro _ hdx hI;obtain ⟨g1,g2⟩:=fS (z:=au.zero) (fun j hj=>hI j hj hj);rw [g2];simp only [go_sem,seval,hdx]
theorem vY (xs:List au) (x:au) (hl:xs.length < 2 ^ 60):Abs.Spec Tryz.prog 46 [] [.sl 12 (xs.map au.cells),.fn 47 [.bF x.cells]] [] (.bool (rU xs x.no)):=by
 have h:=Bj xs x hl;have e:decide (0<=fU au.no x.no xs)=rU xs x.no:=by rw [ng];rfl
 simp only [au.cells] at h |-;refine bg 9 2 [.tmp 4] mixed Tryz.func46 ?_;simp only [go_sem,seval];refine aa.pure h ?_;simp only [go_sem,seval,e]
theorem Ar (s:af) (c:Int) (hr:s.cE) (hl:s.aU.bs.length < 2 ^ 20) (hq:s.book.qs.length < 2 ^ 11) (hn:s.aj.ns.length < 2 ^ 11):Abs.Spec Tryz.prog 27 [] [.agg s.cells,.int .i64 c] [] (.bH [.int .i64 (Ag (az (ou c s.aU.bs++BV s.aj c s.book.qs))),.int .i64 (Av (az (ou c s.aU.bs++BV s.aj c s.book.qs)))]):=by
 have l1:=Jf c s.aU.bs;have l2:=H9 (c:=c) (qs:=s.book.qs) s.aj.ns [];have l3:s.aj.ns.length*s.book.qs.length<=2048*2048:=Nat.mul_le_mul (by omega) (by omega)
 have hS:=pF (ou c s.aU.bs++vp c s.book.qs [] s.aj.ns) (by simp;omega) (fun q hq=>by
  rcases List.mem_append.1 hq with hq | hq
  ·exact GV (Qh hr.bs q hq)
  ·exact Jt hr.qs _ _ hr.ns q hq)
 have hsum:az (ou c s.aU.bs++vp c s.book.qs [] s.aj.ns)=az (ou c s.aU.bs++BV s.aj c s.book.qs):=by
  rw [cU,cU,V3]
 rw [hsum] at hS;simp only [af.cells];refine bg 83 2 [.tmp 4,.tmp 5] mixed Tryz.func27 ?_;simp only [go_sem,seval,aG];refine aC.walk (S:=Unit) s.aU.bs.length [1,2,15,16] [48,272] (fun i _=>[(17,.int .i64 i),(6,.ref 512)]) (fun i _=>[(512,.own 2 (kf (ou c (s.aU.bs.take i))))]) (fun _ _=>True) () trivial ?_ ?_ ?_
 ·simp only [go_sem,seval]<;>simp [ou,kf]
 ·intro i _ hi hdi hwi _;have hm:=aD (c:=bp.cells) s.aU.bs hi;have hs:=NG c s.aU.bs hi;have hlen:=Jf c (s.aU.bs.take i);have hlt:(s.aU.bs.take i).length=i:=by simp;omega
  obtain ⟨z,hz⟩:=aL (s.aU.bs[i]);have hO:=oH z.sum (by rw [hz];exact (hr.bs _ (List.getElem_mem hi)).2.2.2);rw [<- hz] at hm hs;simp only [bp.cells] at hm;simp only [wd] at hO;simp only [isVar] at hs;simp only [go_sem,seval,hdi,hm];(with_reducible and_intros)<;>first|exact .dq|omega|skip
  cases b1:z.kind==5
  ·simp only [b1,Bool.false_and,fZ,if_false] at hs;simp only [go_sem,seval,b1,hwi];refine ah.step () hi trivial ?_;simp only [go_sem,seval,hs]
  cases b2:z.who==0
  ·simp only [b1,b2,Bool.false_and,Bool.and_false,fZ,if_false] at hs;simp only [go_sem,seval,b1,b2,hwi];refine ah.step () hi trivial ?_;simp only [go_sem,seval,hs]
  cases b3:z.cur==c
  ·simp only [b1,b2,b3,Bool.and_false,fZ,if_false] at hs;simp only [go_sem,seval,b1,b2,b3,hwi];refine ah.step () hi trivial ?_;simp only [go_sem,seval,hs]
  simp only [b1,b2,b3,Bool.and_self,if_true] at hs;simp only [go_sem,seval,b1,b2,b3];refine aa.pure hO ?_;simp only [go_sem,seval,hwi];(with_reducible and_intros)<;>first|exact .dq|omega|skip
  refine ah.step () hi trivial ?_;simp only [go_sem,seval,hs]<;>simp [kf,wd]
 intro _ hdx _;obtain ⟨Vs,hVs⟩:=aL (ou c s.aU.bs);rw [<- hVs] at hS l1;simp only [go_sem,seval,hdx,List.take_length,aG,<- hVs];clear hdx;refine aC.walk (S:=List Int) s.aj.ns.length [1,2,35,36] [48,592] (fun i _=>[(37,.int .i64 i),(6,.ref 1232)]) (fun _ L=>[(1232,.own 2 (kf (Vs++L)))]) (fun k L=>L.length<=k*s.book.qs.length/\L++vp c s.book.qs (s.aj.ns.take k) (s.aj.ns.drop k)=vp c s.book.qs [] s.aj.ns) [] (by simp) ?_ ?_ ?_
 ·simp only [go_sem,seval]<;>simp
 ·rintro k L hk hdk hwk ⟨hL,hI⟩
  have hm:=aD (c:=au.cells) s.aj.ns hk;obtain ⟨x,hx⟩:=aL (s.aj.ns[k]);have hxr:x.cE:=by rw [hx];exact hr.ns _ (List.getElem_mem hk)
  have hC:=vY (s.aj.ns.take k) x (by simp;omega);have htk:s.aj.ns.take (k+1)=s.aj.ns.take k++[x]:=by rw [List.take_succ_eq_append_getElem hk,hx]
  rw [dy hk,<- hx] at hI;rw [<- hx] at hm;simp only [vp] at hI;have hkm:(k+1)*s.book.qs.length=k*s.book.qs.length+s.book.qs.length:=Nat.succ_mul _ _;have hkk:k*s.book.qs.length<=2048*2048:=Nat.mul_le_mul (by omega) (by omega);have hmt:(s.aj.ns.map au.cells).take k=(s.aj.ns.take k).map au.cells:=(List.map_take ..).symm;have hkl:(k:Int)<=(s.aj.ns.length:Int):=by omega
  simp only [au.cells] at hm hC;simp only [go_sem,seval,hdk,hm];(with_reducible and_intros)<;>first|exact .dq|omega|skip
  cases b1:x.cur==c
  ·simp only [b1,Bool.false_and,fZ,if_false,List.nil_append] at hI;simp only [go_sem,seval,bne,b1,hwk];refine ah.step L hk ⟨by omega,by rw [htk];exact hI⟩ ?_;simp only [go_sem,seval]
  simp only [go_sem,seval,bne,b1,aG,hmt];(with_reducible and_intros)<;>first|exact .dq|omega|skip
  refine aa.gen [] [] true (by simp) ?_;simp only [go_sem,seval,hmt];refine aY.intro hC ?_;cases b2:rU (s.aj.ns.take k) x.no
  case true =>
   simp only [b1,b2,Bool.not_true,Bool.and_false,fZ,if_false,List.nil_append] at hI;simp only [go_sem,seval,hwk];refine ah.step L hk ⟨by omega,by rw [htk];exact hI⟩ ?_;simp only [go_sem,seval]
  simp only [b1,b2,Bool.not_false,Bool.and_self,if_true] at hI;simp only [go_sem,seval,aG];refine aC.walk (S:=Unit) s.book.qs.length [1,2,10,35,36,37,57,58] [48,176,592,944] (fun i _=>[(59,.int .i64 i),(6,.ref 1232)]) (fun i _=>[(1232,.own 2 (kf (Vs++(L++oT x (s.book.qs.take i)))))]) (fun _ _=>True) () trivial ?_ ?_ ?_
  ·simp only [go_sem,seval]<;>simp [oT]
  ·intro i _ hi hdi hwi _;have hmp:=aD (c:=aA.cells) s.book.qs hi;have hs:=KJ x s.book.qs hi;have hlen:=xT x (s.book.qs.take i);have hlt:(s.book.qs.take i).length=i:=by simp;omega
   obtain ⟨p,hp⟩:=aL (s.book.qs[i]);have hpr:p.cE:=by rw [hp];exact hr.qs _ (List.getElem_mem hi)
   have hT:=K5 x.mult p.cost hxr.2.2.1 hpr.2.2.2;have hwl:(Vs++(L++oT x (s.book.qs.take i))).length<=s.aU.bs.length+(k*s.book.qs.length+i):=by simp;omega
   rw [<- hp] at hmp hs;simp only [aA.cells] at hmp;simp only [go_sem,seval,hdi,hmp];(with_reducible and_intros)<;>first|exact .dq|omega|skip
   cases b3:p.inst==x.no
   ·simp only [b3,fZ,if_false] at hs;simp only [go_sem,seval,hwi];refine ah.step () hi trivial ?_;simp only [go_sem,seval,hs]
   simp only [b3,if_true] at hs;simp only [go_sem,seval];refine aa.pure hT ?_;simp only [go_sem,seval,hwi];(with_reducible and_intros)<;>first|exact .dq|omega|skip
   refine ah.step () hi trivial ?_;simp only [go_sem,seval,hs]<;>simp [kf,wd]
  ·intro _ hdx _;have hcl:=xT x s.book.qs;simp only [go_sem,seval,hdx,List.take_length,hwk];refine ah.step (L++oT x s.book.qs) hk ⟨by simp only [List.length_append];omega,by rw [htk,List.append_assoc];exact hI⟩ ?_;simp only [go_sem,seval]
 ·rintro L hdx ⟨_,hI⟩
  simp only [List.drop_length,vp,List.append_nil] at hI;subst hI;simp only [go_sem,seval,hdx];refine aa.gen [] [] true (by simp) ?_;simp only [go_sem,seval];refine aY.intro hS ?_;simp only [go_sem,seval]
theorem jz (s:af) (hm:s.mid) (hq:s.book.qs.length < 2 ^ 11) (hn:s.aj.ns.length < 2 ^ 11) (hr:s.cE):Abs.Spec Tryz.prog 8 [] [.agg s.cells] [] (.bool (iq s)):=by
 have c1:=Aa s hm.small;have c2:=fun n=>DS s n hr (by have:=hm.qs;omega)
 have c3:=fun c=>Spec.Hx (zY s c [] hr (by have:=hm.bs;omega) (by simp)) (ds':=[.agg s.cells,.int .i64 c,.nil]) (by simp [kV,jf,ints])
 have c4:=fun c=>Ar s c hr hm.bs hq hn
 simp only [af.cells] at c1 c2 c3 c4 |-;refine bg 60 1 [.tmp 2] mixed Tryz.func8 ?_;simp only [go_sem,seval];refine aa.pure c1 ?_;cases b1:bu s
 ·have e:iq s=false:=by simp [iq,b1]
  simp only [go_sem,seval,e,b1]<;>simp
 have e:iq s=((List.range 8).all (fun i=>qZ s ((i:Int)+1))&&(List.range 3).all (fun c=>mZ s (c:Nat)&&pZ s (c:Nat))):=by simp only [iq,b1,Bool.true_and]
 rw [e];simp only [b1];clear e b1 c1;obtain ⟨A,hA⟩:=aL ((List.range 8).all (fun i=>qZ s ((i:Int)+1)));obtain ⟨B,hB⟩:=aL ((List.range 3).all (fun c=>mZ s (c:Nat)&&pZ s (c:Nat)));rw [<- hA,<- hB];simp only [go_sem,seval];refine aC.walk (S:=Unit) 8 [1] [32] (fun i _=>[(3,.int .i64 ((i:Int)+1))]) (fun i _=>[]) (fun i _=>∀ j < i,qZ s ((j:Int)+1)=true) () (by simp) ?_ ?_ ?_
 ·simp only [go_sem,seval]<;>simp
 ·intro i _ hi _ _ hI;obtain ⟨n,hn⟩:=aL ((i:Int)+1);have hd:decide (n<=8)=true:=decide_eq_true (by omega);have hw:IntKind.wrap .i64 (n+1)=((i+1:Nat):Int)+1:=by rw [bz (by omega) (by omega)];omega
  have hz:=BP (az (bR n s.book.qs))
  have hbad:qZ s n=false->(A&&B)=false:=fun h=>by
   rw [hA,Kb hi (by rw [<- hn];exact h)];rfl
  clear hA hB;have hgood:qZ s n=true->∀ j < i+1,qZ s ((j:Int)+1)=true:=fun h=>lt_next (f:=fun j=>qZ s ((j:Int)+1)) hI (by rw [<- hn];exact h)
  simp only [qZ] at hbad hgood;rw [<- hn];simp only [go_sem,seval,hd];refine aa.pure (c2 n) ?_;cases q2:Av (az (bR n s.book.qs))==0
  ·rw [q2,Bool.false_and] at hz;have:=hbad hz.symm;simp only [go_sem,seval,bne,q2]
   first | exact this.symm | simp only [qZ,this]
  cases q1:Ag (az (bR n s.book.qs))==0
  ·rw [q1,Bool.and_false] at hz;have:=hbad hz.symm;simp only [go_sem,seval,bne,q1,q2]
   first | exact this.symm | simp only [qZ,this]
  rw [q1,q2] at hz;simp only [go_sem,seval,bne,q1,q2,hw];refine ah.step () hi (hgood (by rw [<- hz];rfl)) ?_;simp only [go_sem,seval]
 intro _ _ hI;rw [Ey (f:=fun i=>qZ s ((i:Int)+1)) hI] at hA;rw [hA,Bool.true_and];clear hI hA;simp only [go_sem,seval];refine aC.walk (S:=Unit) 3 [1] [32] (fun i _=>[(30,.int .i64 i)]) (fun i _=>[]) (fun i _=>∀ j < i,(mZ s (j:Nat)&&pZ s (j:Nat))=true) () (by simp) ?_ ?_ ?_
 ·simp only [go_sem,seval]<;>simp
 ·intro i _ hi hdi hw hI;have hdi:decide ((i:Int) < 3)=true:=hdi;have hz:=BP (az (nF i [] s.aU.bs));have hy:=BP (az (ou i s.aU.bs++BV s.aj i s.book.qs));have hbad:(mZ s (i:Nat)&&pZ s (i:Nat))=false->B=false:=fun h=>by rw [hB];exact Kb hi h
  clear hB;have hgood:(mZ s (i:Nat)&&pZ s (i:Nat))=true->∀ j < i+1,(mZ s (j:Nat)&&pZ s (j:Nat))=true:=fun h=>lt_next (f:=fun j=>mZ s (j:Nat)&&pZ s (j:Nat)) hI h
  simp only [mZ,pZ] at hbad hgood;simp only [go_sem,seval,hdi];refine aa.pure (c3 i) ?_;simp only [go_sem,seval];refine aa.pure (c4 i) ?_;simp only [mZ,pZ];cases q3:Av (az (nF i [] s.aU.bs))==0
  ·rw [q3,Bool.false_and] at hz;have:=hbad (by rw [<- hz];rfl);simp only [go_sem,seval,bne,q3,this]
  cases q4:Av (az (ou i s.aU.bs++BV s.aj i s.book.qs))==0
  ·rw [q4,Bool.false_and] at hy;have:=hbad (by rw [<- hy];simp);simp only [go_sem,seval,bne,q3,q4,this]
  cases q1:Ag (az (nF i [] s.aU.bs))==0
  ·rw [q1,Bool.and_false] at hz;have:=hbad (by rw [<- hz];rfl);simp only [go_sem,seval,bne,q1,q3,q4,this]
  cases q2:Ag (az (ou i s.aU.bs++BV s.aj i s.book.qs))==0
  ·rw [q2,Bool.and_false] at hy;have:=hbad (by rw [<- hy];simp);simp only [go_sem,seval,bne,q1,q2,q3,q4,this]
  rw [q1,q3] at hz;rw [q2,q4] at hy;simp only [go_sem,seval,bne,q1,q2,q3,q4,hw];refine ah.step () hi ?_ ?_
  ·exact hgood (by rw [<- hz,<- hy];rfl)
  ·simp only [go_sem,seval]
 intro _ hdx hI;have hdx:decide ((3:Int) < 3)=false:=hdx;rw [Ey (f:=fun c=>mZ s (c:Nat)&&pZ s (c:Nat)) hI] at hB;rw [hB];simp only [go_sem,seval,hdx]
def DQ (l:List ByteArray):List (List D):=l.map fun s=>[.str s]
@[go_sem] theorem aaE (l:List ByteArray):(DQ l).length=l.length:=by simp [DQ]
def VL (x:ByteArray × Bool):List D:=[.str x.1,.bool x.2]
def Rd (s1 s2 s3 s4 s5 s6 s7 s8 s9 s10 s11 s12 s13:ByteArray) (b1 b2 b3 b4 b5 b6 b7 b8 b9 b10 b11 b12 b13:Bool):List (ByteArray × Bool):=[(s1,b1),(s2,b2),(s3,b3),(s4,b4),(s5,b5),(s6,b6),(s7,b7),(s8,b8),(s9,b9),(s10,b10),(s11,b11),(s12,b12),(s13,b13)]
theorem Wt (s1 s2 s3 s4 s5 s6 s7 s8 s9 s10 s11 s12 s13:ByteArray) (b1 b2 b3 b4 b5 b6 b7 b8 b9 b10 b11 b12 b13:Bool):[[D.str s1,D.bool b1],[D.str s2,D.bool b2],[D.str s3,D.bool b3],[D.str s4,D.bool b4],[D.str s5,D.bool b5],[D.str s6,D.bool b6],[D.str s7,D.bool b7],[D.str s8,D.bool b8],[D.str s9,D.bool b9],[D.str s10,D.bool b10],[D.str s11,D.bool b11],[D.str s12,D.bool b12],[D.str s13,D.bool b13]]=(Rd s1 s2 s3 s4 s5 s6 s7 s8 s9 s10 s11 s12 s13 b1 b2 b3 b4 b5 b6 b7 b8 b9 b10 b11 b12 b13).map VL:=rfl
theorem S6 (l:List (ByteArray × Bool)) {i:Nat} (hi:i < l.length):(l.map VL).getD i []=[.str l[i].1,.bool l[i].2]:=by simp [VL,hi]
def kZ (L:List (ByteArray × Bool)):List ByteArray:=(L.filter fun x=>!x.2).map (·.1)
theorem OW (L:List (ByteArray × Bool)):(kZ L).length<=L.length:=by
 rw [kZ,aG];exact List.length_filter_le ..
theorem Lf (L:List (ByteArray × Bool)) {i:Nat} (hi:i < L.length):kZ (L.take (i+1))=if L[i].2 then kZ (L.take i) else kZ (L.take i)++[L[i].1]:=by
 rw [List.take_succ_eq_append_getElem hi,kZ,List.filter_append,List.map_append];cases h:L[i].2<;>simp [kZ,h]
def parts (a b:af):List (ByteArray × Bool):=Rd ⟨#[67,108,111,99,107]⟩ ⟨#[77,101,109,98,101,114,115]⟩ ⟨#[73,110,115,116,115]⟩ ⟨#[65,115,115,101,116,115]⟩ ⟨#[78,101,120,116]⟩ ⟨#[84,114,97,100,101,115]⟩ ⟨#[80,111,115,115]⟩ ⟨#[76,97,115,116]⟩ ⟨#[66,97,108,97,110,99,101,115]⟩ ⟨#[80,108,101,100,103,101,115]⟩ ⟨#[67,97,108,108,115]⟩ ⟨#[66,105,100,115]⟩ ⟨#[83,101,97,116,115]⟩ (a.now==b.now&&(a.day==b.day&&a.phase==b.phase)) (decide (a.aj.ms=b.aj.ms)) (decide (a.aj.ns=b.aj.ns)) (decide (a.aj.xs=b.aj.xs)) (a.book.next==b.book.next) (decide (a.book.ts=b.book.ts)) (decide (a.book.qs=b.book.qs)) (a.aU.last==b.aU.last) (decide (a.aU.bs=b.aU.bs)) (decide (a.ps=b.ps)) (decide (a.calls=b.calls)) (decide (a.aW=b.aW)) (decide (a.aJ=b.aJ))
theorem wg (a b:af)
  (h1:Abs.Spec Tryz.prog 14 [] [.sl 3 (a.aj.ms.map ak.cells),.sl 3 (b.aj.ms.map ak.cells)] [] (.bool (decide (a.aj.ms=b.aj.ms))))
  (h2:Abs.Spec Tryz.prog 15 [] [.sl 12 (a.aj.ns.map au.cells),.sl 12 (b.aj.ns.map au.cells)] [] (.bool (decide (a.aj.ns=b.aj.ns))))
  (h3:Abs.Spec Tryz.prog 16 [] [.sl 4 (a.aj.xs.map av.cells),.sl 4 (b.aj.xs.map av.cells)] [] (.bool (decide (a.aj.xs=b.aj.xs))))
  (h4:Abs.Spec Tryz.prog 17 [] [.sl 7 (a.book.ts.map aI.cells),.sl 7 (b.book.ts.map aI.cells)] [] (.bool (decide (a.book.ts=b.book.ts))))
  (h5:Abs.Spec Tryz.prog 18 [] [.sl 4 (a.book.qs.map aA.cells),.sl 4 (b.book.qs.map aA.cells)] [] (.bool (decide (a.book.qs=b.book.qs))))
  (h6:Abs.Spec Tryz.prog 19 [] [.sl 4 (a.aU.bs.map bp.cells),.sl 4 (b.aU.bs.map bp.cells)] [] (.bool (decide (a.aU.bs=b.aU.bs))))
  (h7:Abs.Spec Tryz.prog 20 [] [.sl 3 (pl a.ps),.sl 3 (pl b.ps)] [] (.bool (decide (a.ps=b.ps))))
  (h8:Abs.Spec Tryz.prog 21 [] [.sl 4 (a.calls.map aB.cells),.sl 4 (b.calls.map aB.cells)] [] (.bool (decide (a.calls=b.calls))))
  (h9:Abs.Spec Tryz.prog 22 [] [.sl 5 (a.aW.map br.cells),.sl 5 (b.aW.map br.cells)] [] (.bool (decide (a.aW=b.aW))))
  (h10:Abs.Spec Tryz.prog 23 [] [.sl 7 (a.aJ.map bD.cells),.sl 7 (b.aJ.map bD.cells)] [] (.bool (decide (a.aJ=b.aJ)))) :
  Abs.Spec Tryz.prog 7 [] [.agg a.cells,.agg b.cells] [.own 1 (DQ (kZ (parts a b)))] (.ref 0):=by
 simp only [af.cells];refine bg 118 2 [.tmp 4] mixed Tryz.func7 ?_;simp only [go_sem,seval];(with_reducible and_intros)<;>first|exact .dq|omega|skip
 simp only [List.append_eq,List.cons_append,List.nil_append];simp only [go_sem,seval];(with_reducible and_intros)<;>first|exact .dq|omega|skip
 refine aa.pure h1 ?_;simp only [go_sem,seval];(with_reducible and_intros)<;>first|exact .dq|omega|skip
 refine aa.pure h2 ?_;simp only [go_sem,seval];(with_reducible and_intros)<;>first|exact .dq|omega|skip
 refine aa.pure h3 ?_;simp only [go_sem,seval];(with_reducible and_intros)<;>first|exact .dq|omega|skip
 refine aa.pure h4 ?_;simp only [go_sem,seval];(with_reducible and_intros)<;>first|exact .dq|omega|skip
 refine aa.pure h5 ?_;simp only [go_sem,seval];(with_reducible and_intros)<;>first|exact .dq|omega|skip
 refine aa.pure h6 ?_;simp only [go_sem,seval];(with_reducible and_intros)<;>first|exact .dq|omega|skip
 refine aa.pure h7 ?_;simp only [go_sem,seval];(with_reducible and_intros)<;>first|exact .dq|omega|skip
 refine aa.pure h8 ?_;simp only [go_sem,seval];(with_reducible and_intros)<;>first|exact .dq|omega|skip
 refine aa.pure h9 ?_;simp only [go_sem,seval];(with_reducible and_intros)<;>first|exact .dq|omega|skip
 refine aa.pure h10 ?_;simp only [go_sem,seval];(with_reducible and_intros)<;>first|exact .dq|omega|skip
 clear h1 h2 h3 h4 h5 h6 h7 h8 h9 h10;rw [Wt];generalize hL:Rd _ _ _ _ _ _ _ _ _ _ _ _ _ _ _ _ _ _ _ _ _ _ _ _ _ _=L;have hlen:L.length=13:=by rw [<- hL];rfl
 have hres:kZ (parts a b)=kZ L:=by rw [<- hL];rfl
 rw [hres];clear hres hL;refine aC.walk (S:=Unit) 13 [102,103] [1648] (fun i _=>[(104,.int .i64 i),(5,.ref 1856)]) (fun i _=>[(1856,.own 1 (DQ (kZ (L.take i))))]) (fun _ _=>True) () trivial ?_ ?_ ?_
 ·simp only [go_sem,seval]<;>simp [kZ,DQ]
 ·intro i _ hi hdi hw _;have hdi:decide ((i:Int) < 13)=true:=hdi;have hi2:i < L.length:=by omega
  have hm:=S6 L hi2;have hs:=Lf L hi2;have hn:=OW (L.take i);have hn2:(L.take i).length<=13:=by simp;omega
  have hl1:(i:Int) < 13:=by omega
  obtain ⟨x,hx⟩:=aL (L[i]);rw [<- hx] at hm hs;simp only [go_sem,seval,hdi,hm,aG,hlen];(with_reducible and_intros)<;>first|exact .dq|omega|skip
  cases hb:x.2
  ·rw [hb] at hs;simp only [fZ,if_false] at hs;simp only [go_sem,seval,hb,hw];(with_reducible and_intros)<;>first|exact .dq|omega|skip
   refine ah.step () hi trivial ?_;simp only [go_sem,seval,hs]<;>simp [DQ]
  ·rw [hb] at hs;simp only [if_true] at hs;simp only [go_sem,seval,hb,hw];refine ah.step () hi trivial ?_;simp only [go_sem,seval,hs]
 ·intro _ hdx _;have hdx:decide ((13:Int) < 13)=false:=hdx;have ht:L.take 13=L:=List.take_of_length_le (by omega);simp only [go_sem,seval,hdx,ht]
theorem tC (a b:af) (h:a.small):Abs.Spec Tryz.prog 7 [] [.agg a.cells,.agg b.cells] [.own 1 (DQ (kZ (parts a b)))] (.ref 0):=by
 have hr:=h.aj.small;obtain ⟨hr1,hr2,hr3⟩:=h.aj;obtain ⟨hb1,hb2⟩:=h.book;have h1:=CN a.aj.ms b.aj.ms (by omega);have h2:=Gv a.aj.ns b.aj.ns (by omega);have h3:=Ei a.aj.xs b.aj.xs (by omega);have h4:=D5 a.book.ts b.book.ts (by omega);have h5:=Jv a.book.qs b.book.qs (by omega);have h6:=JQ a.aU.bs b.aU.bs (by have:=h.aU;omega);have h7:=LY a.ps b.ps (by have:=h.ps;omega);have h8:=Ge a.calls b.calls (by have:=h.calls;omega);have h9:=JK a.aW b.aW (by have:=h.aW;omega);have h10:=Da a.aJ b.aJ (by have:=h.aJ;omega) (fun x hx=>⟨by have:=(h.rs x hx).1;omega,by have:=(h.rs x hx).2;omega⟩);exact wg a b h1 h2 h3 h4 h5 h6 h7 h8 h9 h10
theorem DB:Abs.Spec Tryz.prog 14 [] [.sl 3 [],.sl 3 []] [] (.bool true):=by
 refine bg 26 2 [.tmp 4] mixed Tryz.func14 ?_;simp only [go_sem,seval];refine aC.walk (S:=Unit) 0 [0,1,12] [208] (fun i _=>[(13,.int .i64 i)]) (fun _ _=>[]) (fun _ _=>True) () trivial ?_ ?_ ?_
 ·simp only [go_sem,seval]<;>simp
 ·intro i _ hi;omega
 ·intro _ hdx _;simp only [go_sem,seval,hdx]
theorem I6:Abs.Spec Tryz.prog 15 [] [.sl 12 [],.sl 12 []] [] (.bool true):=by
 refine bg 26 2 [.tmp 4] mixed Tryz.func15 ?_;simp only [go_sem,seval];refine aC.walk (S:=Unit) 0 [0,1,12] [208] (fun i _=>[(13,.int .i64 i)]) (fun _ _=>[]) (fun _ _=>True) () trivial ?_ ?_ ?_
 ·simp only [go_sem,seval]<;>simp
 ·intro i _ hi;omega
 ·intro _ hdx _;simp only [go_sem,seval,hdx]
theorem Gq:Abs.Spec Tryz.prog 16 [] [.sl 4 [],.sl 4 []] [] (.bool true):=by
 refine bg 26 2 [.tmp 4] mixed Tryz.func16 ?_;simp only [go_sem,seval];refine aC.walk (S:=Unit) 0 [0,1,12] [208] (fun i _=>[(13,.int .i64 i)]) (fun _ _=>[]) (fun _ _=>True) () trivial ?_ ?_ ?_
 ·simp only [go_sem,seval]<;>simp
 ·intro i _ hi;omega
 ·intro _ hdx _;simp only [go_sem,seval,hdx]
theorem F7:Abs.Spec Tryz.prog 17 [] [.sl 7 [],.sl 7 []] [] (.bool true):=by
 refine bg 26 2 [.tmp 4] mixed Tryz.func17 ?_;simp only [go_sem,seval];refine aC.walk (S:=Unit) 0 [0,1,12] [208] (fun i _=>[(13,.int .i64 i)]) (fun _ _=>[]) (fun _ _=>True) () trivial ?_ ?_ ?_
 ·simp only [go_sem,seval]<;>simp
 ·intro i _ hi;omega
 ·intro _ hdx _;simp only [go_sem,seval,hdx]
theorem KQ:Abs.Spec Tryz.prog 18 [] [.sl 4 [],.sl 4 []] [] (.bool true):=by
 refine bg 26 2 [.tmp 4] mixed Tryz.func18 ?_;simp only [go_sem,seval];refine aC.walk (S:=Unit) 0 [0,1,12] [208] (fun i _=>[(13,.int .i64 i)]) (fun _ _=>[]) (fun _ _=>True) () trivial ?_ ?_ ?_
 ·simp only [go_sem,seval]<;>simp
 ·intro i _ hi;omega
 ·intro _ hdx _;simp only [go_sem,seval,hdx]
theorem L2:Abs.Spec Tryz.prog 19 [] [.sl 4 [],.sl 4 []] [] (.bool true):=by
 refine bg 26 2 [.tmp 4] mixed Tryz.func19 ?_;simp only [go_sem,seval];refine aC.walk (S:=Unit) 0 [0,1,12] [208] (fun i _=>[(13,.int .i64 i)]) (fun _ _=>[]) (fun _ _=>True) () trivial ?_ ?_ ?_
 ·simp only [go_sem,seval]<;>simp
 ·intro i _ hi;omega
 ·intro _ hdx _;simp only [go_sem,seval,hdx]
theorem NX:Abs.Spec Tryz.prog 20 [] [.sl 3 [],.sl 3 []] [] (.bool true):=by
 refine bg 26 2 [.tmp 4] mixed Tryz.func20 ?_;simp only [go_sem,seval];refine aC.walk (S:=Unit) 0 [0,1,12] [208] (fun i _=>[(13,.int .i64 i)]) (fun _ _=>[]) (fun _ _=>True) () trivial ?_ ?_ ?_
 ·simp only [go_sem,seval]<;>simp
 ·intro i _ hi;omega
 ·intro _ hdx _;simp only [go_sem,seval,hdx]
theorem Ke:Abs.Spec Tryz.prog 21 [] [.sl 4 [],.sl 4 []] [] (.bool true):=by
 refine bg 26 2 [.tmp 4] mixed Tryz.func21 ?_;simp only [go_sem,seval];refine aC.walk (S:=Unit) 0 [0,1,12] [208] (fun i _=>[(13,.int .i64 i)]) (fun _ _=>[]) (fun _ _=>True) () trivial ?_ ?_ ?_
 ·simp only [go_sem,seval]<;>simp
 ·intro i _ hi;omega
 ·intro _ hdx _;simp only [go_sem,seval,hdx]
theorem LL:Abs.Spec Tryz.prog 22 [] [.sl 5 [],.sl 5 []] [] (.bool true):=by
 refine bg 26 2 [.tmp 4] mixed Tryz.func22 ?_;simp only [go_sem,seval];refine aC.walk (S:=Unit) 0 [0,1,12] [208] (fun i _=>[(13,.int .i64 i)]) (fun _ _=>[]) (fun _ _=>True) () trivial ?_ ?_ ?_
 ·simp only [go_sem,seval]<;>simp
 ·intro i _ hi;omega
 ·intro _ hdx _;simp only [go_sem,seval,hdx]
theorem JW:Abs.Spec Tryz.prog 31 [] [.sl 7 [],.sl 7 [],.fn 32 []] [] (.bool true):=by
 refine bg 32 3 [.tmp 6] mixed Tryz.func31 ?_;simp only [go_sem,seval];refine aC.walk (S:=Unit) 0 [1,2,15,16] [272] (fun i _=>[(17,.int .i64 i)]) (fun _ _=>[]) (fun _ _=>True) () trivial ?_ ?_ ?_
 ·simp only [go_sem,seval]<;>simp
 ·intro i _ hi;omega
 ·intro _ hdx _;simp only [go_sem,seval,hdx]
theorem DR:Abs.Spec Tryz.prog 23 [] [.sl 7 [],.sl 7 []] [] (.bool true):=by
 refine bg 8 2 [.tmp 4] mixed Tryz.func23 ?_;simp only [go_sem,seval];(with_reducible and_intros)<;>first|exact .dq|omega|skip
 refine aa.pure JW ?_;simp only [go_sem,seval]
def qh (n:Int):af:=⟨n,0,0,⟨[],[],[]⟩,⟨0,[],[]⟩,⟨0,[]⟩,[],[],[],[]⟩
theorem Og {n:Int} (h:eT n):(qh n).cE:=by
 have h0:eT 0:=⟨by decide,by decide⟩
 refine ⟨h,h0,h0,?_,?_,?_,h0,?_,?_,h0,?_,?_,?_,?_,?_⟩<;>simp [qh]
theorem Ou (n:Int):(qh n).mid:=by
 refine ⟨⟨⟨?_,?_,?_⟩,⟨?_,?_⟩,?_,?_,?_,?_,?_,?_⟩,?_,?_,?_⟩<;>simp [qh]
theorem Lg:iq (qh 0)=true:=by kernel_rfl
theorem Pb:kZ (parts (qh 0) (qh 1))=[⟨#[67,108,111,99,107]⟩]:=by kernel_rfl
theorem GM:Abs.Spec Tryz.prog 6 [] [] [] (.bool true):=by
 have h1:=wg (qh 0) (qh 1) DB I6 Gq F7 KQ L2 NX Ke LL DR;have h2:=jz (qh 0) (Ou 0) (by simp [qh]) (by simp [qh]) (Og ⟨by decide,by decide⟩);rw [Pb] at h1;rw [Lg] at h2;simp only [af.cells,qh,List.map_nil] at h1 h2
 replace h1:=Spec.Hx h1 (ds':=[.agg [.int .i64 0,.int .i64 0,.int .i64 0,.nil,.nil,.nil,.int .i64 0,.nil,.nil,.int .i64 0,.nil,.nil,.nil,.nil,.nil],.agg [.int .i64 1,.int .i64 0,.int .i64 0,.nil,.nil,.nil,.int .i64 0,.nil,.nil,.int .i64 0,.nil,.nil,.nil,.nil,.nil]]) (by simp [kV,jf,pl])
 replace h2:=Spec.Hx h2 (ds':=[.agg [.int .i64 0,.int .i64 0,.int .i64 0,.nil,.nil,.nil,.int .i64 0,.nil,.nil,.int .i64 0,.nil,.nil,.nil,.nil,.nil]]) (by simp [kV,jf,pl])
 refine bg 19 0 [.tmp 0] mixed Tryz.func6 ?_;simp only [go_sem,seval];refine aa.gen [] [] false (by simp) ?_;simp only [go_sem,seval];refine aY.intro h1 ?_;simp only [go_sem,seval,DQ,List.map_cons,List.map_nil,List.length_cons,List.length_nil];refine aa.pure h2 ?_;simp only [go_sem,seval]
@[reducible] def ahw (x:Int):List D:=[.int .i64 x]
theorem aa' (n0 n1 n2 n3 n4:Int) (r0 r1 r2 r3 r4 r5 r6 r7 r8 r9:List (List D)):(dL [0,1,2,3,4,5,6,7,8,9] (sq [(0,.agg [.int .i64 n0,.int .i64 n1,.int .i64 n2,.ref 0,.ref 1,.ref 2,.int .i64 n3,.ref 3,.ref 4,.int .i64 n4,.ref 5,.ref 6,.ref 7,.ref 8,.ref 9])] (qY 0 [.own 3 r0,.own 12 r1,.own 4 r2,.own 7 r3,.own 4 r4,.own 4 r5,.own 3 r6,.own 4 r7,.own 5 r8,.own 7 r9]))).t 0=.agg [.int .i64 n0,.int .i64 n1,.int .i64 n2,.sl 3 r0,.sl 12 r1,.sl 4 r2,.int .i64 n3,.sl 7 r3,.sl 4 r4,.int .i64 n4,.sl 4 r5,.sl 3 r6,.sl 4 r7,.sl 5 r8,.sl 7 r9]:=by
 kernel_rfl
theorem WJ (d:D) (r0 r1 r2 r3 r4 r5 r6 r7 r8 r9:List (List D)) (r:Nat):(dL [0,1,2,3,4,5,6,7,8,9] (sq [(0,d)] (qY 0 [.own 3 r0,.own 12 r1,.own 4 r2,.own 7 r3,.own 4 r4,.own 4 r5,.own 3 r6,.own 4 r7,.own 5 r8,.own 7 r9]))).o r=[].getD r .undef:=by
 rcases r with _ | _ | _ | _ | _ | _ | _ | _ | _ | _ | r<;>kernel_rfl
theorem aP (s:af) (hs:s.small):Abs.Spec Tryz.prog 5 [] [.agg s.cells] [] (.agg s.cells):=by
 have h:=ke s hs;simp only [E9,yd] at h;simp only [af.cells];simp only [af.cells] at h;exact Spec.frozen h [0,1,2,3,4,5,6,7,8,9] (aa' ..) (fun r=>WJ ..)
end Go.Proofs.YtnkobepdbkmedaaGreat
