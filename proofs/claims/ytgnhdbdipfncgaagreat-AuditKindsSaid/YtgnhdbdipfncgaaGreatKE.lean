/- Sums of quantities, of money, and what follows. No theorem of a claim. -/
import Derived.Test.YtgnhdbdipfncgaaGreatKD
set_option linter.unusedSimpArgs false
set_option linter.unusedVariables false
set_option maxHeartbeats 4000000
set_option maxRecDepth 16000
namespace Go.Proofs.YtgnhdbdipfncgaaGreat
open Go.Abs
def resN (S:Int):Int:=if inR S then S else 0
def resE (S:Int):Int:=if inR S then 0 else 1
theorem inR_in2 {S:Int} (h:in2 S=false):inR S=false:=by
 cases hb:inR S
 ·rfl
 ·have:=inR_iff.1 hb;have h2:in2 S=true:=by simp only [in2,bae,decide_eq_true_eq];omega
  rw [h] at h2;cases h2
theorem auditSum_spec (l:List Int) (hl:l.length < 2 ^ 58) (hr:∀ n∈l,in2 n=true):Abs.Spec Tryz.prog 35 [] [.sl 2 (wds l)] [] (.tup [.int .i64 (resN (sumL l)),.int .i64 (resE (sumL l))]):=by
 have hs:=wideSum_spec l (by omega) hr;have hI:=wideInt_spec (sumL l);refine sgo 18 1 [.tmp 2,.tmp 3] mixed Tryz.func35 ?_;cases h2:in2 (sumL l)
 ·have hR:=inR_in2 h2;have hz:wd 0=[.int .i64 0,.int .u64 0]:=rfl;rw [h2] at hs;simp only [bfe,if_false,hz] at hs;have e1:resN (sumL l)=0:=by simp [resN,hR]
  have e2:resE (sumL l)=1:=by simp [resE,hR]
  rw [e1,e2];simp only [go_sem,seval];refine CallN.gen [] [] true (by simp) ?_;simp only [go_sem,seval];refine CallG.intro hs ?_;simp only [go_sem,seval]
 ·rw [h2] at hs;simp only [if_true] at hs;simp only [wd] at hs hI;simp only [go_sem,seval];refine CallN.gen [] [] true (by simp) ?_;simp only [go_sem,seval];refine CallG.intro hs ?_;simp only [go_sem,seval];refine CallN.pure hI ?_;simp only [go_sem,seval,resN,resE]
theorem in2_i64 {n:Int} (h:I64 n):in2 n=true:=in2_of (B:=9223372036854775808) ⟨h.1,by have:=h.2;omega⟩ (by omega)
theorem auditQty_spec (s:StateV) (n:Int) (hr:s.rng) (hl:s.book.qs.length < 2 ^ 30):Abs.Spec Tryz.prog 10 [] [.agg s.cells,.int .i64 n] [] (.tup [.int .i64 (resN (sumL (qtysL n s.book.qs))),.int .i64 (resE (sumL (qtysL n s.book.qs)))]):=by
 have hq:=qtysL_len n s.book.qs;have hS:=auditSum_spec (qtysL n s.book.qs) (by omega) (fun q hq=>in2_i64 (qtysL_rng hr.qs q hq));simp only [StateV.cells];refine sgo 33 2 [.tmp 4,.tmp 5] mixed Tryz.func10 ?_;simp only [go_sem,seval,lml];refine LoopK.walk (S:=Unit) s.book.qs.length [1,11,12] [48,208] (fun i _=>[(13,.int .i64 i),(6,.ref 448)]) (fun i _=>[(448,.own 2 (wds (qtysL n (s.book.qs.take i))))]) (fun _ _=>True) () trivial ?_ ?_ ?_
 ·simp only [go_sem,seval]<;>simp [qtysL,wds]
 ·intro i _ hi hdi hwi _;have hm:=map_at (c:=PosV.cells) s.book.qs hi;have hs:=qtysL_step n s.book.qs hi;have hlen:=qtysL_len n (s.book.qs.take i);have hlt:(s.book.qs.take i).length=i:=by simp;omega
  have hO:=wideOf_spec s.book.qs[i].qty (hr.qs _ (List.getElem_mem hi)).2.2.1;simp only [PosV.cells] at hm;simp only [wd] at hO;simp only [go_sem,seval,hdi,hm];(with_reducible and_intros)<;>first|exact .dq|omega|skip
  cases hb:s.book.qs[i].inst==n
  ·simp only [hb,bfe,if_false] at hs;simp only [go_sem,seval,hwi];refine RoundK.step () hi trivial ?_;simp only [go_sem,seval,hs]
  ·simp only [hb,if_true] at hs;simp only [go_sem,seval];refine CallN.pure hO ?_;have hwl:(wds (qtysL n (s.book.qs.take i))).length<=i:=by simp [wds];omega
   simp only [go_sem,seval,hwi];(with_reducible and_intros)<;>first|exact .dq|omega|skip
   refine RoundK.step () hi trivial ?_;simp only [go_sem,seval,hs]<;>simp [wds,wd]
 ·intro _ hdx _;simp only [go_sem,seval,hdx,List.take_length];refine CallN.gen [] [] true (by simp) ?_;simp only [go_sem,seval];refine CallG.intro hS ?_;simp only [go_sem,seval]
theorem index_spec (ks:List Int) (k:Int) (hl:ks.length < 2 ^ 62):Abs.Spec Tryz.prog 117 [] [.sl 1 (ints ks),.int .i64 k] [] (.int .i64 (posL id k ks)):=by
 refine sgo 19 2 [.tmp 4] mixed Tryz.func117 ?_;simp only [go_sem,seval,ints_len];refine LoopK.walk (S:=Unit) ks.length [0,1,7] [] (fun i _=>[(8,.int .i64 i)]) (fun i _=>[]) (fun i _=>∀ j (hj:j < ks.length),j < i->id ks[j]≠k) () (by intros;omega) ?_ ?_ ?_
 ·simp only [go_sem,seval]<;>simp
 ·intro i _ hi hdi hw hI;have hli:(i:Int) < (ks.length:Int):=by omega
  simp only [go_sem,seval,hdi,ints_len,ints_at ks hi];(with_reducible and_intros)<;>first|exact .dq|omega|skip
  cases hb:k==ks[i]
  ·have hb2:id ks[i]≠k:=fun h=>by simp only [id] at h;rw [h] at hb;simp at hb
   simp only [go_sem,seval,hw];refine RoundK.step () hi ?_ ?_
   ·intro j hj hji;rcases Nat.lt_or_ge j i with h | h
    ·exact hI j hj h
    ·obtain rfl:j=i:=by omega
     exact hb2
   ·simp only [go_sem,seval]
  ·have hb2:id ks[i]=k:=by simp only [id];have:=of_beq_int hb;omega
   obtain ⟨g1,g2⟩:=getL_hit (z:=(0:Int)) hi hI hb2;rw [g2];simp only [go_sem,seval]
 ·intro _ hdx hI;obtain ⟨g1,g2⟩:=getL_miss (z:=(0:Int)) (fun j hj=>hI j hj hj);rw [g2];simp only [go_sem,seval,hdx]
theorem pos_any {A:Type} {no:A->Int} {n:Int}:∀ {xs:List A},decide (0<=posL no n xs)=xs.any (fun x=>no x==n)
 | []=>by simp [posL]
 | x :: r=>by
  have ih:=pos_any (no:=no) (n:=n) (xs:=r);rw [Bool.eq_iff_iff,decide_eq_true_iff] at ih |-;rw [List.any_cons,Bool.or_eq_true,<- ih,beq_iff_eq];simp only [posL];split
  ·simp [*]
  ·rename_i h1;split
   ·exact ⟨fun h=>by omega,fun h=>by rcases h with h | h;exact (h1 h).elim;omega⟩
   ·exact ⟨fun _=>.inr (by omega),fun h=>by omega⟩
theorem contains_spec (ks:List Int) (k:Int) (hl:ks.length < 2 ^ 62):Abs.Spec Tryz.prog 36 [] [.sl 1 (ints ks),.int .i64 k] [] (.bool (inK ks k)):=by
 have h:=index_spec ks k hl;have e:decide (0<=posL id k ks)=inK ks k:=by rw [pos_any];rfl
 refine sgo 9 2 [.tmp 4] mixed Tryz.func36 ?_;simp only [go_sem,seval];refine CallN.pure h ?_;simp only [go_sem,seval,e]
def monB (ks:List Int) (k:Int):Bool:=decide (ks.length=0)||inK ks k
def monL (c:Int) (ks:List Int) (bs:List BalV):List Int:=(bs.filter fun b=>b.cur==c&&monB ks b.kind).map BalV.sum
theorem monL_step (c:Int) (ks:List Int) (bs:List BalV) {i:Nat} (h:i < bs.length):monL c ks (bs.take (i+1))=if bs[i].cur==c&&monB ks bs[i].kind then monL c ks (bs.take i)++[bs[i].sum] else monL c ks (bs.take i):=by
 simp only [monL];rw [List.take_succ_eq_append_getElem h,List.filter_append,List.map_append];cases hb:(bs[i].cur==c&&monB ks bs[i].kind)<;>simp [List.filter,hb]
theorem monL_len (c:Int) (ks:List Int) (bs:List BalV):(monL c ks bs).length<=bs.length:=by
 simp only [monL,lml];exact List.length_filter_le _ _
theorem monL_rng {c:Int} {ks:List Int} {bs:List BalV} (h:∀ b∈bs,b.rng):∀ n∈monL c ks bs,I64 n:=by
 intro n hn;simp only [monL,List.mem_map,List.mem_filter] at hn;obtain ⟨b,⟨hb,_⟩,rfl⟩:=hn;exact (h b hb).2.2.2
theorem auditMoney_spec (s:StateV) (c:Int) (ks:List Int) (hr:s.rng) (hl:s.led.bs.length < 2 ^ 30) (hk:ks.length < 2 ^ 30):Abs.Spec Tryz.prog 11 [] [.agg s.cells,.int .i64 c,.sl 1 (ints ks)] [] (.tup [.int .i64 (resN (sumL (monL c ks s.led.bs))),.int .i64 (resE (sumL (monL c ks s.led.bs)))]):=by
 have hq:=monL_len c ks s.led.bs;have hS:=auditSum_spec (monL c ks s.led.bs) (by omega) (fun q hq=>in2_i64 (monL_rng hr.bs q hq));simp only [StateV.cells];refine sgo 47 3 [.tmp 6,.tmp 7] mixed Tryz.func11 ?_;simp only [go_sem,seval,lml];refine LoopK.walk (S:=Unit) s.led.bs.length [1,2,13,14] [64,240] (fun i _=>[(15,.int .i64 i),(8,.ref 672)]) (fun i _=>[(672,.own 2 (wds (monL c ks (s.led.bs.take i))))]) (fun _ _=>True) () trivial ?_ ?_ ?_
 ·simp only [go_sem,seval]<;>simp [monL,wds]
 ·intro i _ hi hdi hwi _;have hm:=map_at (c:=BalV.cells) s.led.bs hi;have hs:=monL_step c ks s.led.bs hi;have hlen:=monL_len c ks (s.led.bs.take i);have hlt:(s.led.bs.take i).length=i:=by simp;omega
  obtain ⟨z,hz⟩:=nmE (s.led.bs[i]);have hO:=wideOf_spec z.sum (by rw [hz];exact (hr.bs _ (List.getElem_mem hi)).2.2.2);have hC:=contains_spec ks z.kind (by omega);have hwl:(wds (monL c ks (s.led.bs.take i))).length<=i:=by simp [wds];omega
  rw [<- hz] at hm hs;simp only [BalV.cells] at hm;simp only [wd] at hO;simp only [go_sem,seval,hdi,hm];(with_reducible and_intros)<;>first|exact .dq|omega|skip
  cases b1:z.cur==c
  ·simp only [b1,Bool.false_and,bfe,if_false] at hs;simp only [go_sem,seval,hwi];refine RoundK.step () hi trivial ?_;simp only [go_sem,seval,hs]
  cases b2:decide (ks.length=0)
  case true =>
   have b2':((ks.length:Int)==0)=true:=by rw [beq_iff_eq];have:=of_decide_eq_true b2;omega
   simp only [b1,monB,b2,Bool.true_or,Bool.and_self,if_true] at hs;simp only [go_sem,seval,ints_len,b2'];refine CallN.pure hO ?_;simp only [go_sem,seval,hwi];(with_reducible and_intros)<;>first|exact .dq|omega|skip
   refine RoundK.step () hi trivial ?_;simp only [go_sem,seval,hs]<;>simp [wds,wd]
  have b2':((ks.length:Int)==0)=false:=by rw [beq_eq_false_iff_ne];have:=of_decide_eq_false b2;omega
  simp only [go_sem,seval,ints_len,b2'];refine CallN.pure hC ?_;cases b3:inK ks z.kind
  ·simp only [b1,monB,b2,b3,Bool.or_self,Bool.and_false,bfe,if_false] at hs;simp only [go_sem,seval,hwi];refine RoundK.step () hi trivial ?_;simp only [go_sem,seval,hs]
  ·simp only [b1,monB,b2,b3,Bool.false_or,Bool.and_self,if_true] at hs;simp only [go_sem,seval];refine CallN.pure hO ?_;simp only [go_sem,seval,hwi];(with_reducible and_intros)<;>first|exact .dq|omega|skip
   refine RoundK.step () hi trivial ?_;simp only [go_sem,seval,hs]<;>simp [wds,wd]
 ·intro _ hdx _;simp only [go_sem,seval,hdx,List.take_length];refine CallN.gen [] [] true (by simp) ?_;simp only [go_sem,seval];refine CallG.intro hS ?_;simp only [go_sem,seval]
def isVar (c:Int) (b:BalV):Bool:=b.kind==5&&(b.who==0&&b.cur==c)
def varL (c:Int) (bs:List BalV):List Int:=(bs.filter (isVar c)).map BalV.sum
theorem varL_step (c:Int) (bs:List BalV) {i:Nat} (h:i < bs.length):varL c (bs.take (i+1))=if isVar c bs[i] then varL c (bs.take i)++[bs[i].sum] else varL c (bs.take i):=by
 simp only [varL];rw [List.take_succ_eq_append_getElem h,List.filter_append,List.map_append];cases hb:isVar c bs[i]<;>simp [List.filter,hb]
theorem varL_len (c:Int) (bs:List BalV):(varL c bs).length<=bs.length:=by
 simp only [varL,lml];exact List.length_filter_le _ _
theorem varL_rng {c:Int} {bs:List BalV} (h:∀ b∈bs,b.rng):∀ n∈varL c bs,I64 n:=by
 intro n hn;simp only [varL,List.mem_map,List.mem_filter] at hn;obtain ⟨b,⟨hb,_⟩,rfl⟩:=hn;exact (h b hb).2.2.2
def costL (x:InstV) (qs:List PosV):List Int:=(qs.filter fun p=>p.inst==x.no).map fun p=>x.mult*p.cost
theorem costL_step (x:InstV) (qs:List PosV) {i:Nat} (h:i < qs.length):costL x (qs.take (i+1))=if qs[i].inst==x.no then costL x (qs.take i)++[x.mult*qs[i].cost] else costL x (qs.take i):=by
 simp only [costL];rw [List.take_succ_eq_append_getElem h,List.filter_append,List.map_append];cases hb:(qs[i].inst==x.no)<;>simp [List.filter,hb]
theorem costL_len (x:InstV) (qs:List PosV):(costL x qs).length<=qs.length:=by
 simp only [costL,lml];exact List.length_filter_le _ _
def seenB (l:List InstV) (n:Int):Bool:=l.any fun x=>x.no==n
def papI (c:Int) (qs:List PosV):List InstV->List InstV->List Int
 | _,[]=>[]
 | seen,x :: r=>(if x.cur==c&&!seenB seen x.no then costL x qs else [])++papI c qs (seen++[x]) r
def papT (r:RollV) (c:Int) (p:PosV):Int:=if instIs r p.inst&&(instOf r p.inst).cur==c then (instOf r p.inst).mult*p.cost else 0
def papL (r:RollV) (c:Int) (qs:List PosV):List Int:=(qs.filter fun p=>instIs r p.inst&&(instOf r p.inst).cur==c).map fun p=>(instOf r p.inst).mult*p.cost
theorem sum_filter {A:Type} (h:A->Bool) (v:A->Int):∀ l:List A,sumL ((l.filter h).map v)=sumL (l.map fun a=>if h a then v a else 0)
 | []=>rfl
 | a :: l=>by
  have ih:=sum_filter h v l;cases hb:h a<;>simp only [List.filter,hb,List.map_cons,sumL,ih,if_true,bfe,if_false]<;>omega
theorem sum_add {A:Type} (f g k:A->Int) (h:∀ a,k a=f a+g a):∀ l:List A,sumL (l.map k)=sumL (l.map f)+sumL (l.map g)
 | []=>rfl
 | a :: l=>by
  have ih:=sum_add f g k h l;simp only [List.map_cons,sumL,ih,h a];omega
theorem sum_zero {A:Type} (f:A->Int) (h:∀ a,f a=0):∀ l:List A,sumL (l.map f)=0
 | []=>rfl
 | a :: l=>by simp only [List.map_cons,sumL,sum_zero f h l,h a];omega
def papG (c:Int) (seen ns:List InstV) (p:PosV):Int:=
 if seenB seen p.inst then 0 else if decide (0<=posL InstV.no p.inst ns)&&(getL InstV.no p.inst InstV.zero ns).cur==c then (getL InstV.no p.inst InstV.zero ns).mult*p.cost else 0
theorem sumL_append:∀ l m:List Int,sumL (l++m)=sumL l+sumL m
 | [],m=>by simp [sumL]
 | x :: l,m=>by simp only [List.cons_append,sumL,sumL_append l m];omega
theorem papI_sum (c:Int) (qs:List PosV):∀ (ns seen:List InstV),sumL (papI c qs seen ns)=sumL (qs.map (papG c seen ns))
 | [],seen=>by
  rw [sum_zero]
  ·rfl
  ·intro p;simp [papG,posL]
 | x :: r,seen=>by
  have ih:=papI_sum c qs r (seen++[x]);simp only [papI];rw [sumL_append,ih]
  have hA:sumL (if (x.cur==c&&!seenB seen x.no)=true then costL x qs else [])=sumL (qs.map fun p=>if x.cur==c&&!seenB seen x.no&&p.inst==x.no then x.mult*p.cost else 0):=by
   cases hb:(x.cur==c&&!seenB seen x.no)
   ·rw [sum_zero]
    ·rfl
    ·intro p;simp
   ·simp only [if_true,costL,Bool.true_and];rw [sum_filter]
  rw [hA,<- sum_add (k:=papG c seen (x :: r))];intro p;have hs:seenB (seen++[x]) p.inst=(seenB seen p.inst||x.no==p.inst):=by simp [seenB]
  by_cases he:x.no=p.inst
  ·have e1:(x.no==p.inst)=true:=by simpa using he
   have e2:(p.inst==x.no)=true:=by simp [he]
   have e3:posL InstV.no p.inst (x :: r)=0:=by simp [posL,he]
   have e4:getL InstV.no p.inst InstV.zero (x :: r)=x:=by simp [getL,he]
   simp only [papG,hs,e1,e2,e3,e4,Bool.or_true,if_true,he];cases seenB seen p.inst<;>cases (x.cur==c)<;>simp
  ·have e1:(x.no==p.inst)=false:=by simpa using he
   have e2:(p.inst==x.no)=false:=by simp;omega
   have e4:getL InstV.no p.inst InstV.zero (x :: r)=getL InstV.no p.inst InstV.zero r:=by simp [getL,he]
   have e3:decide (0<=posL InstV.no p.inst (x :: r))=decide (0<=posL InstV.no p.inst r):=by
    rw [pos_any,pos_any,List.any_cons,e1,Bool.false_or]
   simp only [papG,hs,e1,e2,e3,e4,Bool.or_false,Bool.and_false,bfe,if_false,Int.zero_add]
theorem pap_eq (r:RollV) (c:Int) (qs:List PosV):sumL (papI c qs [] r.ns)=sumL (papL r c qs):=by
 rw [papI_sum,papL,sum_filter];congr 1
theorem mul_in2 {a b:Int} (ha:I64 a) (hb:I64 b):in2 (a*b)=true:=by
 have h:=mul_range (a:=a) (b:=b) (A:=9223372036854775808) (B:=9223372036854775808) ⟨ha.1,by have:=ha.2;omega⟩ ⟨hb.1,by have:=hb.2;omega⟩;exact in2_of h (by omega)
theorem papI_in2 {c:Int} {qs:List PosV} (hq:∀ p∈qs,p.rng):∀ (ns seen:List InstV),(∀ x∈ns,x.rng)->∀ n∈papI c qs seen ns,in2 n=true
 | [],_,_,n,hn=>by cases hn
 | x :: r,seen,h,n,hn=>by
  simp only [papI,List.mem_append] at hn;rcases hn with hn | hn
  ·split at hn
   ·simp only [costL,List.mem_map,List.mem_filter] at hn;obtain ⟨p,⟨hp,_⟩,rfl⟩:=hn;exact mul_in2 (h x (by simp)).2.2.1 (hq p hp).2.2.2
   ·cases hn
  ·exact papI_in2 hq r _ (fun y hy=>h y (by simp [hy])) n hn
theorem papI_len {c:Int} {qs:List PosV}:∀ (ns seen:List InstV),(papI c qs seen ns).length<=ns.length*qs.length
 | [],_=>by simp [papI]
 | x :: r,seen=>by
  have ih:=papI_len (c:=c) (qs:=qs) r (seen++[x]);simp only [papI,List.length_append,List.length_cons,Nat.succ_mul];have:=costL_len x qs;split<;>simp<;>omega
def MemberV.zero:MemberV:=⟨0,0,0⟩
theorem findMember_spec (xs:List MemberV) (n:Int) (hl:xs.length < 2 ^ 62):Abs.Spec Tryz.prog 263 [] [.sl 3 (xs.map MemberV.cells),.fn 191 [],.int .i64 n] [] (.tup [.agg (getL MemberV.no n MemberV.zero xs).cells,.int .i64 (posL MemberV.no n xs)]):=by
 refine sgo 27 3 [.cell 6 91,.tmp 7] mixed Tryz.func263 ?_;simp only [go_sem,seval,lml];refine LoopK.walk (S:=Unit) xs.length [1,2,6,11,12] [112,208] (fun i _=>[(13,.int .i64 i)]) (fun i _=>[]) (fun i _=>∀ j (hj:j < xs.length),j < i->xs[j].no≠n) () (by intros;omega) ?_ ?_ ?_
 ·simp only [go_sem,seval]<;>simp
 ·intro i _ hi hdi hw hI;have hm:=map_at (c:=MemberV.cells) xs hi;have hno:=noMember_spec xs[i];simp only [MemberV.cells] at hm hno |-;simp only [go_sem,seval,hdi,hm];(with_reducible and_intros)<;>first|exact .dq|omega|skip
  refine CallN.pure hno ?_;cases hb:xs[i].no==n
  ·have hb2:xs[i].no≠n:=by simpa using hb
   simp only [go_sem,seval,hb,hw];refine RoundK.step () hi ?_ ?_
   ·intro j hj hji;rcases Nat.lt_or_ge j i with h | h
    ·exact hI j hj h
    ·obtain rfl:j=i:=by omega
     exact hb2
   ·simp only [go_sem,seval]
  ·have hb2:xs[i].no=n:=by simpa using hb
   obtain ⟨g1,g2⟩:=getL_hit (z:=MemberV.zero) hi hI hb2;rw [g1,g2];simp only [go_sem,seval,hb]
 ·intro _ hdx hI;obtain ⟨g1,g2⟩:=getL_miss (z:=MemberV.zero) (fun j hj=>hI j hj hj);rw [g1,g2];simp only [go_sem,seval,hdx,MemberV.cells,MemberV.zero]
def memOf (r:RollV) (n:Int):MemberV:=getL MemberV.no n MemberV.zero r.ms
def memIs (r:RollV) (n:Int):Bool:=decide (0<=posL MemberV.no n r.ms)
def stOf (r:RollV) (n:Int):Int:=(memOf r n).state
theorem rollMember_spec (r:RollV) (n:Int) (hl:r.small):Abs.Spec Tryz.prog 173 [] [.agg r.cells,.int .i64 n] [] (.tup [.agg (memOf r n).cells,.bool (memIs r n)]):=by
 have h:=findMember_spec r.ms n (by have:=hl.1;omega);obtain ⟨g,hg⟩:=nmE (getL MemberV.no n MemberV.zero r.ms);simp only [memOf,memIs];rw [<- hg] at h |-;simp only [MemberV.cells] at h |-;simp only [RollV.cells];refine sgo 18 2 [.cell 4 91,.tmp 5] mixed Tryz.func173 ?_;simp only [go_sem,seval];refine CallN.pure h ?_;simp only [go_sem,seval]
theorem known1_spec (s:StateV) (n:Int) (hl:s.roll.small):Abs.Spec Tryz.prog 215 [] [.int .i64 n,.eaddr s.cells] [] (.int .i64 (stOf s.roll n)):=by
 have h:=rollMember_spec s.roll n hl;simp only [stOf];obtain ⟨g,hg⟩:=nmE (memOf s.roll n);rw [<- hg] at h |-;simp only [RollV.cells,MemberV.cells] at h;simp only [StateV.cells];refine sgo 15 2 [.tmp 3] mixed Tryz.func215 ?_;simp only [go_sem,seval];(with_reducible and_intros)<;>first|exact .dq|omega|skip
 refine CallN.pure h ?_;simp only [go_sem,seval]
theorem known2_spec (s:StateV) (n:Int) (hl:s.roll.small):Abs.Spec Tryz.prog 216 [] [.int .i64 n,.eaddr s.cells] [] (.bool (instIs s.roll n)):=by
 have h:=rollInst_spec s.roll n hl;obtain ⟨g,hg⟩:=nmE (instOf s.roll n);rw [<- hg] at h;simp only [RollV.cells,InstV.cells] at h;simp only [StateV.cells];refine sgo 14 2 [.tmp 3] mixed Tryz.func216 ?_;simp only [go_sem,seval];(with_reducible and_intros)<;>first|exact .dq|omega|skip
 refine CallN.pure h ?_;simp only [go_sem,seval]
def openB (r:RollV) (n:Int):Bool:=stOf r n==1||stOf r n==2
theorem known3_spec (s:StateV) (n:Int) (hl:s.roll.small):Abs.Spec Tryz.prog 217 [] [.int .i64 n,.eaddr [.fn 215 [.eaddr s.cells]]] [] (.bool (openB s.roll n)):=by
 have h:=known1_spec s n hl;simp only [StateV.cells] at h |-;refine sgo 14 2 [.tmp 3] mixed Tryz.func217 ?_;simp only [go_sem,seval];(with_reducible and_intros)<;>first|exact .dq|omega|skip
 refine CallN.pure h ?_;cases b1:stOf s.roll n==1
 ·simp only [go_sem,seval,b1];(with_reducible and_intros)<;>first|exact .dq|omega|skip
  refine CallN.pure h ?_;simp only [go_sem,seval,openB,b1,Bool.false_or]
 ·simp only [go_sem,seval,openB,b1,Bool.true_or]
theorem known4_spec (s:StateV) (c:CallV) (hl:s.roll.small):Abs.Spec Tryz.prog 220 [] [.agg c.cells,.eaddr [.fn 215 [.eaddr s.cells]]] [] (.bool (!(stOf s.roll c.who==1))):=by
 have h:=known1_spec s c.who hl;simp only [StateV.cells] at h |-;simp only [CallV.cells];refine sgo 10 2 [.tmp 3] mixed Tryz.func220 ?_;simp only [go_sem,seval];(with_reducible and_intros)<;>first|exact .dq|omega|skip
 refine CallN.pure h ?_;simp only [go_sem,seval,bne]
theorem callIndex_spec (s:StateV) (cs:List CallV) (hl:s.roll.small) (hc:cs.length < 2 ^ 60):Abs.Spec Tryz.prog 282 [] [.sl 4 (cs.map CallV.cells),.fn 220 [.eaddr [.fn 215 [.eaddr s.cells]]]] [] (.int .i64 (posL (fun c:CallV=>if stOf s.roll c.who==1 then 0 else 1) 1 cs)):=by
 have h:=fun c=>known4_spec s c hl
 simp only [StateV.cells,CallV.cells] at h |-;refine sgo 19 2 [.tmp 4] mixed Tryz.func282 ?_;simp only [go_sem,seval,lml];refine LoopK.walk (S:=Unit) cs.length [0,1,7] [] (fun i _=>[(8,.int .i64 i)]) (fun i _=>[]) (fun i _=>∀ j (hj:j < cs.length),j < i->(if stOf s.roll cs[j].who==1 then (0:Int) else 1)≠1) () (by intros;omega) ?_ ?_ ?_
 ·simp only [go_sem,seval]<;>simp
 ·intro i _ hi hdi hw hI;have hm:=map_at (c:=CallV.cells) cs hi;have hli:(i:Int) < (cs.length:Int):=by omega
  have hc:=h cs[i];simp only [CallV.cells] at hm;simp only [go_sem,seval,hdi,lml,hm];(with_reducible and_intros)<;>first|exact .dq|omega|skip
  refine CallN.pure hc ?_;cases hb:stOf s.roll cs[i].who==1
  ·obtain ⟨g1,g2⟩:=getL_hit (no:=fun c:CallV=>if stOf s.roll c.who==1 then (0:Int) else 1) (n:=1) (z:=(⟨0,0,0,0⟩:CallV)) hi hI (by simp [hb]);rw [g2];simp only [go_sem,seval,hb]
  ·simp only [go_sem,seval,hb,hw];refine RoundK.step () hi ?_ ?_
   ·intro j hj hji;rcases Nat.lt_or_ge j i with h | h
    ·exact hI j hj h
    ·obtain rfl:j=i:=by omega
     simp [hb]
   ·simp only [go_sem,seval]
 ·intro _ hdx hI;obtain ⟨g1,g2⟩:=getL_miss (no:=fun c:CallV=>if stOf s.roll c.who==1 then (0:Int) else 1) (n:=1) (z:=(⟨0,0,0,0⟩:CallV)) (fun j hj=>hI j hj hj);rw [g2];simp only [go_sem,seval,hdx]
def callK (r:RollV) (c:CallV):Bool:=stOf r c.who==1
theorem callContains_spec (s:StateV) (cs:List CallV) (hl:s.roll.small) (hc:cs.length < 2 ^ 60):Abs.Spec Tryz.prog 219 [] [.sl 4 (cs.map CallV.cells),.fn 220 [.eaddr [.fn 215 [.eaddr s.cells]]]] [] (.bool (!cs.all (callK s.roll))):=by
 have h:=callIndex_spec s cs hl hc
 have e:decide (0<=posL (fun c:CallV=>if stOf s.roll c.who==1 then (0:Int) else 1) 1 cs) = !cs.all (callK s.roll):=by
  rw [pos_any,List.not_all_eq_any_not];congr 1
  funext c
  cases hb:stOf s.roll c.who==1<;>simp [callK,hb]
 simp only [StateV.cells] at h |-;refine sgo 9 2 [.tmp 4] mixed Tryz.func219 ?_;simp only [go_sem,seval];refine CallN.pure h ?_;simp only [go_sem,seval,e]
def posK (r:RollV) (p:PosV):Bool:=openB r p.who&&instIs r p.inst
def trdK (r:RollV) (t:TradeV):Bool:=!(stOf r t.buyer==0)&&(!(stOf r t.seller==0)&&instIs r t.inst)
def astIs (r:RollV) (n:Int):Bool:=decide (0<=posL AssetV.a n r.xs)
def plgK (r:RollV) (p:Plg):Bool:=openB r p.who&&astIs r p.asset
def knownB (s:StateV):Bool:=s.book.qs.all (posK s.roll)&&(s.book.ts.all (trdK s.roll)&&(s.ps.all (plgK s.roll)&&s.calls.all (callK s.roll)))
theorem all_no {A:Type} {f:A->Bool} {xs:List A} {i:Nat} (h:i < xs.length) (hn:f xs[i]=false):xs.all f=false:=by
 cases hc:xs.all f
 ·rfl
 ·rw [List.all_eq_true.1 hc _ (List.getElem_mem h)] at hn;cases hn
theorem all_yes {A:Type} {f:A->Bool} {xs:List A} (h:∀ j (hj:j < xs.length),j < xs.length->f xs[j]=true):xs.all f=true:=List.all_eq_true.2 fun x hx=>by
 obtain ⟨j,hj,rfl⟩:=List.mem_iff_getElem.1 hx;exact h j hj hj
theorem all_next {A:Type} {f:A->Bool} {xs:List A} {i:Nat} (hi:i < xs.length) (hI:∀ j (hj:j < xs.length),j < i->f xs[j]=true) (h0:f xs[i]=true):∀ j (hj:j < xs.length),j < i+1->f xs[j]=true:=fun j hj hji=>by
 rcases Nat.lt_or_ge j i with h | h
 ·exact hI j hj h
 ·obtain rfl:j=i:=by omega
  exact h0
theorem known_spec (s:StateV) (hs:s.fit) (hc:s.calls.length < 2 ^ 30):Abs.Spec Tryz.prog 91 [] [.agg s.cells] [] (.bool (knownB s)):=by
 obtain ⟨hl,hb,_,hp⟩:=hs;obtain ⟨hb1,hb2⟩:=hb;have k2:=fun n=>known2_spec s n hl
 have k1:=fun n=>known1_spec s n hl
 have k3:=fun n=>known3_spec s n hl
 have kA:=fun n=>rollAsset_spec s.roll n hl
 have kC:=callContains_spec s s.calls hl (by omega);simp only [RollV.cells] at kA;simp only [StateV.cells] at k1 k2 k3 kC |-;refine sgo 98 1 [.tmp 2] mixed Tryz.func91 ?_;simp only [go_sem,seval,lml];refine LoopK.walk (S:=Unit) s.book.qs.length [1,3,4,5,19,20] [32,64,256,272,336] (fun i _=>[(21,.int .i64 i)]) (fun i _=>[]) (fun i _=>∀ j (hj:j < s.book.qs.length),j < i->posK s.roll s.book.qs[j]=true) () (by intros;omega) ?_ ?_ ?_
 ·simp only [go_sem,seval]<;>simp
 ·intro i _ hi hdi hw hI;have hm:=map_at (c:=PosV.cells) s.book.qs hi;have e0:=all_next hi hI;have e1:posK s.roll s.book.qs[i]=false->knownB s=false:=fun h=>by simp [knownB,all_no hi h]
  simp only [PosV.cells] at hm;simp only [go_sem,seval,hdi,hm];(with_reducible and_intros)<;>first|exact .dq|omega|skip
  refine CallN.gen [] [] true (by simp) ?_;simp only [go_sem,seval];refine CallG.intro (k3 s.book.qs[i].who) ?_;cases b1:openB s.roll s.book.qs[i].who
  ·have:=e1 (by simp [posK,b1]);simp only [go_sem,seval,b1,this]
  simp only [go_sem,seval,b1];refine CallN.gen [] [] true (by simp) ?_;simp only [go_sem,seval];refine CallG.intro (k2 s.book.qs[i].inst) ?_;cases b2:instIs s.roll s.book.qs[i].inst
  ·have:=e1 (by simp [posK,b1,b2]);simp only [go_sem,seval,b2,this]
  simp only [go_sem,seval,b2,hw];refine RoundK.step () hi (e0 (by simp [posK,b1,b2])) ?_;simp only [go_sem,seval]
 intro _ hdx hI;have hA:=all_yes hI;have eA:knownB s=(s.book.ts.all (trdK s.roll)&&(s.ps.all (plgK s.roll)&&s.calls.all (callK s.roll))):=by simp [knownB,hA]
 rw [eA];clear eA hA hI;simp only [go_sem,seval,hdx,lml];clear hdx;refine LoopK.walk (S:=Unit) s.book.ts.length [1,3,4,5,42,43] [32,64,256,272,704] (fun i _=>[(44,.int .i64 i)]) (fun i _=>[]) (fun i _=>∀ j (hj:j < s.book.ts.length),j < i->trdK s.roll s.book.ts[j]=true) () (by intros;omega) ?_ ?_ ?_
 ·simp only [go_sem,seval]<;>simp
 ·intro i _ hi hdi hw hI;have hm:=map_at (c:=TradeV.cells) s.book.ts hi;have e0:=all_next hi hI;have e1:trdK s.roll s.book.ts[i]=false->(s.book.ts.all (trdK s.roll)&&(s.ps.all (plgK s.roll)&&s.calls.all (callK s.roll)))=false:=fun h=>by simp [all_no hi h]
  simp only [TradeV.cells] at hm;simp only [go_sem,seval,hdi,hm];(with_reducible and_intros)<;>first|exact .dq|omega|skip
  refine CallN.gen [] [] true (by simp) ?_;simp only [go_sem,seval];refine CallG.intro (k1 s.book.ts[i].buyer) ?_;cases b1:stOf s.roll s.book.ts[i].buyer==0
  case true =>
   have:=e1 (by simp only [trdK,b1];rfl);simp only [go_sem,seval,b1,this]
  simp only [go_sem,seval,b1];refine CallN.gen [] [] true (by simp) ?_;simp only [go_sem,seval];refine CallG.intro (k1 s.book.ts[i].seller) ?_;cases b2:stOf s.roll s.book.ts[i].seller==0
  case true =>
   have:=e1 (by simp only [trdK,b1,b2];rfl);simp only [go_sem,seval,b2,this]
  simp only [go_sem,seval,b2];refine CallN.gen [] [] true (by simp) ?_;simp only [go_sem,seval];refine CallG.intro (k2 s.book.ts[i].inst) ?_;cases b3:instIs s.roll s.book.ts[i].inst
  ·have:=e1 (by simp only [trdK,b1,b2,b3];rfl);simp only [go_sem,seval,b3,this]
  simp only [go_sem,seval,b3,hw];refine RoundK.step () hi (e0 (by simp only [trdK,b1,b2,b3];rfl)) ?_;simp only [go_sem,seval]
 intro _ hdx hI;have hA:=all_yes hI;rw [hA,Bool.true_and];clear hA hI;have hpl:(pl s.ps).length=s.ps.length:=pl_len s.ps;simp only [go_sem,seval,hdx];clear hdx;refine LoopK.walk (S:=Unit) s.ps.length [1,3,5,69,70] [32,64,272,1136] (fun i _=>[(71,.int .i64 i)]) (fun i _=>[]) (fun i _=>∀ j (hj:j < s.ps.length),j < i->plgK s.roll s.ps[j]=true) () (by intros;omega) ?_ ?_ ?_
 ·simp only [go_sem,seval]<;>simp
 ·intro i _ hi hdi hw hI;have hm:=pl_at s.ps hi;have e0:=all_next hi hI;have e1:plgK s.roll s.ps[i]=false->(s.ps.all (plgK s.roll)&&s.calls.all (callK s.roll))=false:=fun h=>by simp [all_no hi h]
  have hA:=kA s.ps[i].asset;obtain ⟨g,hg⟩:=nmE (getL AssetV.a s.ps[i].asset ⟨0,0,0,0⟩ s.roll.xs);have hAe:decide (0<=posL AssetV.a s.ps[i].asset s.roll.xs)=astIs s.roll s.ps[i].asset:=rfl;rw [<- hg,hAe] at hA;simp only [AssetV.cells] at hA;simp only [go_sem,seval,hdi,hm];(with_reducible and_intros)<;>first|exact .dq|omega|skip
  refine CallN.pure hA ?_;simp only [go_sem,seval];refine CallN.gen [] [] true (by simp) ?_;simp only [go_sem,seval];refine CallG.intro (k3 s.ps[i].who) ?_;cases b1:openB s.roll s.ps[i].who
  ·have:=e1 (by simp only [plgK,b1];rfl);simp only [go_sem,seval,b1,this]
  cases b2:astIs s.roll s.ps[i].asset
  ·have:=e1 (by simp only [plgK,b1,b2];rfl);simp only [go_sem,seval,b1,b2,this]
  simp only [go_sem,seval,b1,b2,hw];refine RoundK.step () hi (e0 (by simp only [plgK,b1,b2];rfl)) ?_;simp only [go_sem,seval]
 intro _ hdx hI;have hA:=all_yes hI;rw [hA,Bool.true_and];clear hA hI;simp only [go_sem,seval,hdx];refine CallN.gen [32,64] [] true (by simp) ?_;simp only [go_sem,seval];refine CallG.intro kC ?_;simp only [go_sem,seval,Bool.not_not]
def cmpI (x y:Int):Int:=if x < y then -1 else if y < x then 1 else 0
theorem isNaN_spec (x:Int):Abs.Spec Tryz.prog 255 [] [.int .i64 x] [] (.bool false):=by
 refine sgo 6 1 [.tmp 2] mixed Tryz.func255 ?_;simp only [go_sem,seval,bne,beq_self_eq_true,Bool.not_true]
theorem cmpCompare_spec (x y:Int):Abs.Spec Tryz.prog 131 [] [.int .i64 x,.int .i64 y] [] (.int .i64 (cmpI x y)):=by
 have h1:=isNaN_spec x;have h2:=isNaN_spec y;refine sgo 20 2 [.tmp 4] mixed Tryz.func131 ?_;simp only [go_sem,seval];refine CallN.pure h1 ?_;simp only [go_sem,seval];refine CallN.pure h2 ?_;simp only [cmpI];rcases Int.lt_or_le x y with h | h
 ·have d:decide (x < y)=true:=decide_eq_true h;simp only [go_sem,seval,d,if_pos h]
 ·have d:decide (x < y)=false:=decide_eq_false (by omega);rw [if_neg (by omega)];rcases Int.lt_or_le y x with h3 | h3
  ·have d2:decide (y < x)=true:=decide_eq_true h3;simp only [go_sem,seval,d,d2,if_pos h3]
  ·have d2:decide (y < x)=false:=decide_eq_false (by omega);simp only [go_sem,seval,d,d2,if_neg (show ¬ y < x by omega)]
def orI:List Int->Int
 | []=>0
 | x :: xs=>if x=0 then orI xs else x
theorem cmpOrL_spec (xs:List Int) (hn:xs.length < 2 ^ 60):Abs.Spec Tryz.prog 130 [] [.sl 1 (ints xs)] [] (.int .i64 (orI xs)):=by
 refine sgo 18 1 [.tmp 2] mixed Tryz.func130 ?_;simp only [go_sem,seval,ints_len];refine LoopK.walk (S:=Unit) xs.length [3,6,7] [128] (fun i _=>[(8,.int .i64 i)]) (fun i _=>[]) (fun i _=>orI (xs.drop i)=orI xs) () (by simp) ?_ ?_ ?_
 ·simp only [go_sem,seval]<;>simp
 ·intro i _ hi hdi hw hI;have hat:=ints_at xs hi;obtain ⟨x,hx⟩:=nmE (xs[i]);have hd:orI (xs.drop i)=if x=0 then orI (xs.drop (i+1)) else x:=by rw [drop_at hi,orI,hx]
  rw [hd] at hI;rw [<- hx] at hat;simp only [go_sem,seval,ints_len,hdi,hat];(with_reducible and_intros)<;>first|exact .dq|omega|skip
  cases hb:x==0
  ·have h0:x≠0:=by simpa using hb
   rw [if_neg h0] at hI;rw [hI] at hb;simp only [go_sem,seval,bne,hb,hI]
  ·have h0:x=0:=by simpa using hb
   rw [if_pos h0] at hI;simp only [go_sem,seval,bne,hb,hw];refine RoundK.step () hi hI ?_;simp only [go_sem,seval]
 ·intro _ hdx hI;rw [List.drop_length,orI] at hI;simp only [go_sem,seval,ints_len,hdx,<- hI]
theorem cmpOr_spec (x y:Int):Abs.Spec Tryz.prog 130 [] [.sl 1 [[.int .i64 x],[.int .i64 y]]] [] (.int .i64 (if x=0 then y else x)):=by
 have h:=cmpOrL_spec [x,y] (by simp)
 have e:orI [x,y]=if x=0 then y else x:=by
  simp only [orI];split<;>try rfl
  split<;>rename_i h<;>simp_all
 rw [e] at h;exact h
def callLt (a b:CallV):Bool:=decide (a.who < b.who)||(a.who==b.who&&decide (a.cur < b.cur))
def callC (a:CallV) (w c:Int):Int:=if cmpI a.who w=0 then cmpI a.cur c else cmpI a.who w
theorem callC_lt (a b:CallV):decide (0<=callC a b.who b.cur) = !callLt a b:=by
 rw [Bool.eq_iff_iff,decide_eq_true_iff];simp only [callC,cmpI,callLt,Bool.not_eq_true',Bool.or_eq_false_iff,decide_eq_false_iff_not,Bool.and_eq_false_iff,beq_eq_false_iff_ne]
 repeat' split
 all_goals omega
theorem callCompare_spec (a:CallV) (w c:Int):Abs.Spec Tryz.prog 214 [] [.agg a.cells,.int .i64 w,.int .i64 c] [] (.int .i64 (callC a w c)):=by
 have h1:=cmpCompare_spec a.who w;have h2:=cmpCompare_spec a.cur c;have h3:=cmpOr_spec (cmpI a.who w) (cmpI a.cur c);simp only [CallV.cells];refine sgo 19 3 [.tmp 6] mixed Tryz.func214 ?_;simp only [go_sem,seval];(with_reducible and_intros)<;>first|exact .dq|omega|skip
 refine CallN.pure h1 ?_;simp only [go_sem,seval];(with_reducible and_intros)<;>first|exact .dq|omega|skip
 refine CallN.pure h2 ?_;simp only [go_sem,seval];(with_reducible and_intros)<;>first|exact .dq|omega|skip
 refine CallN.gen [] [] true (by simp) ?_;simp only [go_sem,seval];refine CallG.intro h3 ?_;simp only [go_sem,seval,callC]
def callOk (c:CallV):Bool:=(within c.who 1 16&&within c.cur 0 2)&&(within c.amt 1 4611686018427387904&&within c.till 0 1099511627776)
theorem callRight_spec (w c:Int):Abs.Spec Tryz.prog 213 [] [.int .i64 w,.int .i64 c] [] (.bool (within w 1 16&&within c 0 2)):=by
 refine sgo 19 2 [.tmp 4] mixed Tryz.func213 ?_;simp only [go_sem,seval]
 repeat' with_reducible first|apply And.intro|exact .dq|refine CallN.pure (by assumption) ?_|refine .splitDN (fun h=>?_) fun h=>?_|refine .splitD (fun h=>?_) fun h=>?_|refine .splitN (fun h=>?_) fun h=>?_|refine .split (fun h=>?_) fun h=>?_|refine .id ?_|refine RoundK.next (by omega) ?_ ?_|exact trivial|simp only [*,go_sem,seval]
 all_goals (simp_all [within];try omega)
theorem dueLess_spec (a b:DueV):Abs.Spec Tryz.prog 172 [] [.agg a.cells,.agg b.cells] [] (.bool (decide (a.who < b.who)||(a.who==b.who&&decide (a.cur < b.cur)))):=by
 simp only [DueV.cells];refine sgo 24 2 [.tmp 4] mixed Tryz.func172 ?_;simp only [go_sem,seval]
 repeat' with_reducible first|apply And.intro|exact .dq|refine CallN.pure (by assumption) ?_|refine .splitDN (fun h=>?_) fun h=>?_|refine .splitD (fun h=>?_) fun h=>?_|refine .splitN (fun h=>?_) fun h=>?_|refine .split (fun h=>?_) fun h=>?_|refine .id ?_|refine RoundK.next (by omega) ?_ ?_|exact trivial|simp only [*,go_sem,seval]
 all_goals (simp_all)
theorem callCheck_spec (cs:List CallV) (hl:cs.length < 2 ^ 30):Abs.Spec Tryz.prog 90 [] [.sl 4 (cs.map CallV.cells)] [] (.int .i64 (if chB callOk callLt cs then 0 else 14)):=by
 refine sgo 64 1 [.tmp 2] mixed Tryz.func90 ?_;simp only [go_sem,seval,lml];refine LoopK.count cs.length [0,5,6] [112] (fun i=>[(7,.int .i64 i)]) (fun i=>[]) (fun i=>∀ j < i,chAt callOk callLt cs j=true) (by simp) ?_ ?_
 ·simp only [go_sem,seval]<;>simp
 intro i hi hI;simp only [go_sem,seval,lml];refine CondE.splitD (fun h=>?_) (fun h=>?_)
 ·have hi':i < cs.length:=by omega
  have hw:IntKind.wrap .i64 ((i:Int)+1)=((i+1:Nat):Int):=by rw [wr64 (by omega) (by omega)];omega
  have hm:=map_at (c:=CallV.cells) cs hi';have e0:=ch_next (i:=i) hI;have e1:chAt callOk callLt cs i=false->chB callOk callLt cs=false:=chB_no hi';have h1:=callRight_spec cs[i].who cs[i].cur;have h2:Abs.Spec Tryz.prog 136 [] [.sl 1 [[.int .i64 cs[i].amt]]] [] (.bool (right [cs[i].amt])):=right_spec [cs[i].amt] (by simp);rw [right_one] at h2;have hamt:(inR cs[i].amt&&!decide (cs[i].amt < 1))=within cs[i].amt 1 4611686018427387904:=by rw [Bool.eq_iff_iff];simp [inR,within];omega
  have htl:(!decide (cs[i].till < 0)&&!decide (1099511627776 < cs[i].till))=within cs[i].till 0 1099511627776:=by rw [Bool.eq_iff_iff];simp [within]
  simp only [CallV.cells] at hm;rcases Nat.eq_zero_or_pos i with rfl | hpos
  ·have hk:=chAt_zero (ok:=callOk) (lt:=callLt) hi';simp only [callOk,<- hamt,<- htl] at hk;simp only [go_sem,seval,hm,lml]
   repeat' with_reducible first|apply And.intro|exact .dq|refine CallN.pure (by assumption) ?_|refine CallN.pure (h1) ?_|(refine CallN.gen [] [] true (by simp) ?_;simp only [go_sem,seval];refine CallG.intro h2 ?_)|refine .splitDN (fun h=>?_) fun h=>?_|refine .splitD (fun h=>?_) fun h=>?_|refine .splitN (fun h=>?_) fun h=>?_|refine .split (fun h=>?_) fun h=>?_|refine .id ?_|refine RoundK.next (by omega) ?_ ?_|exact trivial|simp only [*,go_sem,seval]
   all_goals first
    | omega
    | rfl
    | (refine e0 ?_;clear e0 e1;rw [hk];clear hk;simp_all;done)
    | (refine e0 ?_;clear e0 e1;rw [hk];clear hk;simp_all;omega)
    | (rw [e1 ?_];clear e0 e1;rw [hk];clear hk;simp_all;done)
    | (rw [e1 ?_];clear e0 e1;rw [hk];clear hk;simp_all;omega)
    | (rw [e1 ?_]
       ·rfl
       ·clear e0 e1;rw [hk];clear hk;simp_all;done)
    | (rw [e1 ?_]
       ·rfl
       ·clear e0 e1;rw [hk];clear hk;simp_all;omega)
  ·obtain ⟨j,rfl⟩:∃ j,i=j+1:=⟨i-1,by omega⟩
   have hj:j < cs.length:=by omega
   have hw1:IntKind.wrap .i64 (((j+1:Nat):Int)-1)=(j:Int):=by rw [wr64 (by omega) (by omega)];omega
   have hk:=chAt_succ (ok:=callOk) (lt:=callLt) hi';simp only [callOk,<- hamt,<- htl] at hk;have hmj:=map_at (c:=CallV.cells) cs hj;have h9:=callCompare_spec cs[j] cs[j+1].who cs[j+1].cur;have hlt:=callC_lt cs[j] cs[j+1];rw [hlt.symm.trans (by rfl:decide (0<=callC cs[j] cs[j+1].who cs[j+1].cur)=decide (0<=callC cs[j] cs[j+1].who cs[j+1].cur))] at hlt;simp only [CallV.cells] at h9;have hk2:callLt cs[j] cs[j+1] = !decide (0<=callC cs[j] cs[j+1].who cs[j+1].cur):=by rw [callC_lt,Bool.not_not]
   rw [hk2] at hk;clear hlt hk2;simp only [CallV.cells] at hmj;simp only [go_sem,seval,hm,lml]
   repeat' with_reducible first|apply And.intro|exact .dq|refine CallN.pure (by assumption) ?_|refine CallN.pure (h1) ?_|(refine CallN.gen [] [] true (by simp) ?_;simp only [go_sem,seval];refine CallG.intro h2 ?_)|refine CallN.pure (h9) ?_|refine .splitDN (fun h=>?_) fun h=>?_|refine .splitD (fun h=>?_) fun h=>?_|refine .splitN (fun h=>?_) fun h=>?_|refine .split (fun h=>?_) fun h=>?_|refine .id ?_|refine RoundK.next (by omega) ?_ ?_|exact trivial|simp only [*,go_sem,seval,hmj,lml]
   all_goals first
    | omega
    | rfl
    | (refine e0 ?_;clear e0 e1;rw [hk];clear hk;simp_all;done)
    | (refine e0 ?_;clear e0 e1;rw [hk];clear hk;simp_all;omega)
    | (rw [e1 ?_];clear e0 e1;rw [hk];clear hk;simp_all;done)
    | (rw [e1 ?_];clear e0 e1;rw [hk];clear hk;simp_all;omega)
    | (rw [e1 ?_]
       ·rfl
       ·clear e0 e1;rw [hk];clear hk;simp_all;done)
    | (rw [e1 ?_]
       ·rfl
       ·clear e0 e1;rw [hk];clear hk;simp_all;omega)
 have hCH:=chB_yes (fun j (hj:j < cs.length)=>hI j (by omega));clear hI;simp only [go_sem,seval,hCH]
theorem refCalls_spec (cs:List CallV) (hl:cs.length < 2 ^ 30):Abs.Spec Tryz.prog 72 [] [.sl 4 (cs.map CallV.cells)] [] (.bool (chB callOk callLt cs)):=by
 refine sgo 56 1 [.tmp 2] mixed Tryz.func72 ?_;simp only [go_sem,seval,lml];refine LoopK.count cs.length [0] [] (fun i=>[(3,.int .i64 i)]) (fun i=>[]) (fun i=>∀ j < i,chAt callOk callLt cs j=true) (by simp) ?_ ?_
 ·simp only [go_sem,seval]<;>simp
 intro i hi hI;simp only [go_sem,seval,lml];refine CondE.splitD (fun h=>?_) (fun h=>?_)
 ·have hi':i < cs.length:=by omega
  have hw:IntKind.wrap .i64 ((i:Int)+1)=((i+1:Nat):Int):=by rw [wr64 (by omega) (by omega)];omega
  have hm:=map_at (c:=CallV.cells) cs hi';have e0:=ch_next (i:=i) hI;have e1:chAt callOk callLt cs i=false->chB callOk callLt cs=false:=chB_no hi';have h1:=refWho_spec cs[i].who;have h2:=refCur_spec cs[i].cur;have h3:=within15_spec cs[i].amt 1 4611686018427387904;have h4:=within15_spec cs[i].till 0 1099511627776;simp only [CallV.cells] at hm;rcases Nat.eq_zero_or_pos i with rfl | hpos
  ·have hk:=chAt_zero (ok:=callOk) (lt:=callLt) hi';simp only [callOk] at hk;simp only [go_sem,seval,hm,lml]
   repeat' with_reducible first|apply And.intro|exact .dq|refine CallN.pure (by assumption) ?_|refine CallN.pure (h1) ?_|refine CallN.pure (h2) ?_|refine CallN.pure (h3) ?_|refine CallN.pure (h4) ?_|refine .splitDN (fun h=>?_) fun h=>?_|refine .splitD (fun h=>?_) fun h=>?_|refine .splitN (fun h=>?_) fun h=>?_|refine .split (fun h=>?_) fun h=>?_|refine .id ?_|refine RoundK.next (by omega) ?_ ?_|exact trivial|simp only [*,go_sem,seval]
   all_goals first
    | omega
    | rfl
    | (refine e0 ?_;clear e0 e1;rw [hk];clear hk;simp_all;done)
    | (refine e0 ?_;clear e0 e1;rw [hk];clear hk;simp_all;omega)
    | (rw [e1 ?_];clear e0 e1;rw [hk];clear hk;simp_all;done)
    | (rw [e1 ?_];clear e0 e1;rw [hk];clear hk;simp_all;omega)
    | (rw [e1 ?_]
       ·rfl
       ·clear e0 e1;rw [hk];clear hk;simp_all;done)
    | (rw [e1 ?_]
       ·rfl
       ·clear e0 e1;rw [hk];clear hk;simp_all;omega)
  ·obtain ⟨j,rfl⟩:∃ j,i=j+1:=⟨i-1,by omega⟩
   have hj:j < cs.length:=by omega
   have hw1:IntKind.wrap .i64 (((j+1:Nat):Int)-1)=(j:Int):=by rw [wr64 (by omega) (by omega)];omega
   have hk:=chAt_succ (ok:=callOk) (lt:=callLt) hi';simp only [callOk] at hk;have hmj:=map_at (c:=CallV.cells) cs hj;have h9:=dueLess_spec ⟨cs[j].who,cs[j].cur,cs[j].amt⟩ ⟨cs[j+1].who,cs[j+1].cur,cs[j+1].amt⟩;simp only [DueV.cells] at h9;simp only [callLt] at hk;obtain ⟨lt,hlt⟩:=nmE ((decide (cs[j].who < cs[j+1].who)||(cs[j].who==cs[j+1].who&&decide (cs[j].cur < cs[j+1].cur))));rw [<- hlt] at hk h9;clear hlt;simp only [CallV.cells] at hmj;simp only [go_sem,seval,hm,lml]
   repeat' with_reducible first|apply And.intro|exact .dq|refine CallN.pure (by assumption) ?_|refine CallN.pure (h1) ?_|refine CallN.pure (h2) ?_|refine CallN.pure (h3) ?_|refine CallN.pure (h4) ?_|refine CallN.pure (h9) ?_|refine .splitDN (fun h=>?_) fun h=>?_|refine .splitD (fun h=>?_) fun h=>?_|refine .splitN (fun h=>?_) fun h=>?_|refine .split (fun h=>?_) fun h=>?_|refine .id ?_|refine RoundK.next (by omega) ?_ ?_|exact trivial|simp only [*,go_sem,seval,hmj,lml]
   all_goals first
    | omega
    | rfl
    | (refine e0 ?_;clear e0 e1;rw [hk];clear hk;simp_all;done)
    | (refine e0 ?_;clear e0 e1;rw [hk];clear hk;simp_all;omega)
    | (rw [e1 ?_];clear e0 e1;rw [hk];clear hk;simp_all;done)
    | (rw [e1 ?_];clear e0 e1;rw [hk];clear hk;simp_all;omega)
    | (rw [e1 ?_]
       ·rfl
       ·clear e0 e1;rw [hk];clear hk;simp_all;done)
    | (rw [e1 ?_]
       ·rfl
       ·clear e0 e1;rw [hk];clear hk;simp_all;omega)
 have hCH:=chB_yes (fun j (hj:j < cs.length)=>hI j (by omega));clear hI;simp only [go_sem,seval,hCH]
def clockB (s:StateV):Bool:=within s.now 0 1099511627776&&(within s.day 0 1099511627776&&within s.phase 0 2)
theorem rightClock_spec (a b c:Int):Abs.Spec Tryz.prog 85 [] [.agg [.int .i64 a,.int .i64 b,.int .i64 c]] [] (.bool (within a 0 1099511627776&&(within b 0 1099511627776&&within c 0 2))):=by
 refine sgo 31 1 [.tmp 2] mixed Tryz.func85 ?_;simp only [go_sem,seval]
 repeat' with_reducible first|apply And.intro|exact .dq|refine CallN.pure (by assumption) ?_|refine .splitDN (fun h=>?_) fun h=>?_|refine .splitD (fun h=>?_) fun h=>?_|refine .splitN (fun h=>?_) fun h=>?_|refine .split (fun h=>?_) fun h=>?_|refine .id ?_|refine RoundK.next (by omega) ?_ ?_|exact trivial|simp only [*,go_sem,seval]
 all_goals (simp_all [within];try omega)
def bidOk (b:BidV):Bool:=keyB b.who b.inst&&(within b.src 1 16&&(within b.qty 1 1048576&&within b.price 1 1073741824))
theorem rightBid_spec (b:BidV):Abs.Spec Tryz.prog 92 [] [.agg b.cells] [] (.bool (bidOk b)):=by
 simp only [BidV.cells];refine sgo 55 1 [.tmp 2] mixed Tryz.func92 ?_;simp only [go_sem,seval]
 repeat' with_reducible first|apply And.intro|exact .dq|refine CallN.pure (by assumption) ?_|refine .splitDN (fun h=>?_) fun h=>?_|refine .splitD (fun h=>?_) fun h=>?_|refine .splitN (fun h=>?_) fun h=>?_|refine .split (fun h=>?_) fun h=>?_|refine .id ?_|refine RoundK.next (by omega) ?_ ?_|exact trivial|simp only [*,go_sem,seval]
 all_goals (simp_all [bidOk,keyB,within];try omega)
def seatOk (x:SeatV):Bool:=within x.client 1 8&&within x.seq 1 1099511627776
def seatLt (a b:SeatV):Bool:=decide (a.client < b.client)
def rightS (s:StateV):Bool:=clockB s&&(s.roll.okB&&(s.book.okB&&(s.led.okB&&(checkB s.ps&&(chB callOk callLt s.calls&&(knownB s&&(!decide (32 < (s.bids.length:Int))&&(s.bids.all bidOk&&chB seatOk seatLt s.seats))))))))
theorem closeCheck_spec (s:StateV) (hs:s.small):Abs.Spec Tryz.prog 27 [] [.agg s.cells] [] (.int .i64 (if rightS s then 0 else 14)):=by
 have hfit:s.fit:=⟨hs.roll.small,hs.book,hs.led,hs.ps⟩
 have c1:=rightClock_spec s.now s.day s.phase;have c2:=rollCheck_spec s.roll hs.roll.small;have c3:=bookCheck_spec s.book hs.book;have c4:=ledCheck_spec s.led hs.led;have c5:=plg_check s.ps (by have:=hs.ps;omega);have c6:=callCheck_spec s.calls hs.calls;have c7:=known_spec s hfit hs.calls;have hbl:=hs.bids;have hsl:=hs.seats;clear hfit;simp only [RollV.cells,BookV.cells,LedV.cells] at c2 c3 c4;simp only [StateV.cells] at c7 |-;refine sgo 106 1 [.tmp 2] mixed Tryz.func27 ?_;simp only [go_sem,seval];refine CallN.pure c1 ?_;cases b1:clockB s
 ·have e:rightS s=false:=by simp [rightS,b1]
  simp only [clockB] at b1;simp only [go_sem,seval,b1,e]<;>simp
 have b1':=b1;simp only [clockB] at b1';simp only [go_sem,seval,b1'];refine CallN.pure c2 ?_;cases b2:s.roll.okB
 ·have e:rightS s=false:=by simp [rightS,b2]
  simp only [go_sem,seval,e]<;>simp
 simp only [go_sem,seval];refine CallN.pure c3 ?_;cases b3:s.book.okB
 ·have e:rightS s=false:=by simp [rightS,b3]
  simp only [go_sem,seval,e]<;>simp
 simp only [go_sem,seval];refine CallN.pure c4 ?_;cases b4:s.led.okB
 ·have e:rightS s=false:=by simp [rightS,b4]
  simp only [go_sem,seval,e]<;>simp
 simp only [go_sem,seval];refine CallN.pure c5 ?_;cases b5:checkB s.ps
 ·have e:rightS s=false:=by simp [rightS,b5]
  simp only [go_sem,seval,e]<;>simp
 simp only [go_sem,seval];refine CallN.pure c6 ?_;cases b6:chB callOk callLt s.calls
 ·have e:rightS s=false:=by simp [rightS,b6]
  simp only [go_sem,seval,e]<;>simp
 simp only [go_sem,seval];refine CallN.pure c7 ?_;cases b7:knownB s
 ·have e:rightS s=false:=by simp [rightS,b7]
  simp only [go_sem,seval,e]<;>simp
 cases b8:decide (32 < (s.bids.length:Int))
 case true =>
  have e:rightS s=false:=by simp [rightS,b8]
  simp only [go_sem,seval,lml,b8,e]<;>simp
 have e:rightS s=(s.bids.all bidOk&&chB seatOk seatLt s.seats):=by simp only [rightS,b1,b2,b3,b4,b5,b6,b7,b8,Bool.true_and,Bool.not_false]
 rw [e];clear e c1 c2 c3 c4 c5 c6 c7 b1 b1' b2 b3 b4 b5 b6 b7;simp only [go_sem,seval,lml,b8];refine LoopK.walk (S:=Unit) s.bids.length [1,53,54] [32,880] (fun i _=>[(55,.int .i64 i)]) (fun i _=>[]) (fun i _=>∀ j (hj:j < s.bids.length),j < i->bidOk s.bids[j]=true) () (by intros;omega) ?_ ?_ ?_
 ·simp only [go_sem,seval]<;>simp
 ·intro i _ hi hdi hw hI;have hm:=map_at (c:=BidV.cells) s.bids hi;have hb:=rightBid_spec s.bids[i];have e0:=all_next hi hI;have e1:bidOk s.bids[i]=false->(s.bids.all bidOk&&chB seatOk seatLt s.seats)=false:=fun h=>by simp [all_no hi h]
  simp only [BidV.cells] at hm hb;simp only [go_sem,seval,hdi,hm];(with_reducible and_intros)<;>first|exact .dq|omega|skip
  refine CallN.pure hb ?_;cases b1:bidOk s.bids[i]
  ·have:=e1 b1;simp only [go_sem,seval,this]<;>simp
  simp only [go_sem,seval,hw];refine RoundK.step () hi (e0 b1) ?_;simp only [go_sem,seval]
 intro _ hdx hI;have hA:=all_yes hI;rw [hA,Bool.true_and];clear hI hA;simp only [go_sem,seval,hdx,lml];clear hdx b8;refine LoopK.count s.seats.length [1,64,65] [32,1056] (fun i=>[(66,.int .i64 i)]) (fun i=>[]) (fun i=>∀ j < i,chAt seatOk seatLt s.seats j=true) (by simp) ?_ ?_
 ·simp only [go_sem,seval]<;>simp
 intro i hi hI;simp only [go_sem,seval,lml];refine CondE.splitD (fun h=>?_) (fun h=>?_)
 ·have hi':i < s.seats.length:=by omega
  have hw:IntKind.wrap .i64 ((i:Int)+1)=((i+1:Nat):Int):=by rw [wr64 (by omega) (by omega)];omega
  have hm:=map_at (c:=SeatV.cells) s.seats hi';have e0:=ch_next (i:=i) hI;have e1:chAt seatOk seatLt s.seats i=false->chB seatOk seatLt s.seats=false:=chB_no hi'

  simp only [SeatV.cells] at hm;rcases Nat.eq_zero_or_pos i with rfl | hpos
  ·have hk:=chAt_zero (ok:=seatOk) (lt:=seatLt) hi';simp only [seatOk,seatLt,within] at hk;simp only [go_sem,seval,hm,lml]
   repeat' with_reducible first|apply And.intro|exact .dq|refine CallN.pure (by assumption) ?_|refine .splitDN (fun h=>?_) fun h=>?_|refine .splitD (fun h=>?_) fun h=>?_|refine .splitN (fun h=>?_) fun h=>?_|refine .split (fun h=>?_) fun h=>?_|refine .id ?_|refine RoundK.next (by omega) ?_ ?_|exact trivial|simp only [*,go_sem,seval]
   all_goals first
    | omega
    | rfl
    | (refine e0 ?_;clear e0 e1;rw [hk];clear hk;simp_all;done)
    | (refine e0 ?_;clear e0 e1;rw [hk];clear hk;simp_all;omega)
    | (rw [e1 ?_];clear e0 e1;rw [hk];clear hk;simp_all;done)
    | (rw [e1 ?_];clear e0 e1;rw [hk];clear hk;simp_all;omega)
    | (rw [e1 ?_]
       ·rfl
       ·clear e0 e1;rw [hk];clear hk;simp_all;done)
    | (rw [e1 ?_]
       ·rfl
       ·clear e0 e1;rw [hk];clear hk;simp_all;omega)
  ·obtain ⟨j,rfl⟩:∃ j,i=j+1:=⟨i-1,by omega⟩
   have hj:j < s.seats.length:=by omega
   have hw1:IntKind.wrap .i64 (((j+1:Nat):Int)-1)=(j:Int):=by rw [wr64 (by omega) (by omega)];omega
   have hk:=chAt_succ (ok:=seatOk) (lt:=seatLt) hi';simp only [seatOk,seatLt,within] at hk;have hmj:=map_at (c:=SeatV.cells) s.seats hj

   simp only [SeatV.cells] at hmj;simp only [go_sem,seval,hm,lml]
   repeat' with_reducible first|apply And.intro|exact .dq|refine CallN.pure (by assumption) ?_|refine .splitDN (fun h=>?_) fun h=>?_|refine .splitD (fun h=>?_) fun h=>?_|refine .splitN (fun h=>?_) fun h=>?_|refine .split (fun h=>?_) fun h=>?_|refine .id ?_|refine RoundK.next (by omega) ?_ ?_|exact trivial|simp only [*,go_sem,seval,hmj,lml]
   all_goals first
    | omega
    | rfl
    | (refine e0 ?_;clear e0 e1;rw [hk];clear hk;simp_all;done)
    | (refine e0 ?_;clear e0 e1;rw [hk];clear hk;simp_all;omega)
    | (rw [e1 ?_];clear e0 e1;rw [hk];clear hk;simp_all;done)
    | (rw [e1 ?_];clear e0 e1;rw [hk];clear hk;simp_all;omega)
    | (rw [e1 ?_]
       ·rfl
       ·clear e0 e1;rw [hk];clear hk;simp_all;done)
    | (rw [e1 ?_]
       ·rfl
       ·clear e0 e1;rw [hk];clear hk;simp_all;omega)
 have hCH:=chB_yes (fun j (hj:j < s.seats.length)=>hI j (by omega));clear hI;simp only [go_sem,seval,hCH]
theorem within22_spec (a b c:Int):Abs.Spec Tryz.prog 67 [] [.int .i64 a,.int .i64 b,.int .i64 c] [] (.bool (within a b c)):=by
 refine sgo 15 3 [.tmp 6] mixed Tryz.func67 ?_;simp only [go_sem,seval]
 repeat' with_reducible first|apply And.intro|exact .dq|refine CallN.pure (by assumption) ?_|refine .splitDN (fun h=>?_) fun h=>?_|refine .splitD (fun h=>?_) fun h=>?_|refine .splitN (fun h=>?_) fun h=>?_|refine .split (fun h=>?_) fun h=>?_|refine .id ?_|refine RoundK.next (by omega) ?_ ?_|exact trivial|simp only [*,go_sem,seval]
 all_goals (simp only [within];simp<;>omega)
theorem refMemberFind_spec (r:RollV) (n:Int) (hl:r.small):Abs.Spec Tryz.prog 25 [] [.agg r.cells,.int .i64 n] [] (.tup [.agg (memOf r n).cells,.bool (memIs r n)]):=by
 obtain ⟨l1,l2,l3⟩:=hl;simp only [RollV.cells];refine sgo 28 2 [.cell 4 91,.tmp 5] mixed Tryz.func25 ?_;simp only [go_sem,seval,lml];refine LoopK.walk (S:=Unit) r.ms.length [1,2,4] [48,80] (fun i _=>[(6,.int .i64 i)]) (fun i _=>[]) (fun i _=>∀ j (hj:j < r.ms.length),j < i->r.ms[j].no≠n) () (by intros;omega) ?_ ?_ ?_
 ·simp only [go_sem,seval]<;>simp
 ·intro i _ hi hdi hw hI;have hm:=map_at (c:=MemberV.cells) r.ms hi;have hlt:(i:Int) < (r.ms.length:Int):=by omega
  simp only [MemberV.cells] at hm |-;simp only [go_sem,seval,lml,hdi,hm];(with_reducible and_intros)<;>first|exact .dq|omega|skip
  cases hb:r.ms[i].no==n
  ·have hb2:r.ms[i].no≠n:=by simpa using hb
   simp only [go_sem,seval,hw];refine RoundK.step () hi ?_ ?_
   ·intro j hj hji;rcases Nat.lt_or_ge j i with h | h
    ·exact hI j hj h
    ·obtain rfl:j=i:=by omega
     exact hb2
   ·simp only [go_sem,seval]
  ·have hb2:r.ms[i].no=n:=by simpa using hb
   obtain ⟨g1,g2⟩:=getL_hit (z:=MemberV.zero) hi hI hb2;have e1:memOf r n=r.ms[i]:=g1;have e2:memIs r n=true:=by simp [memIs,g2]
   rw [e1,e2];simp only [go_sem,seval,hm,lml];(with_reducible and_intros)<;>first|exact .dq|omega|skip
 ·intro _ hdx hI;obtain ⟨g1,g2⟩:=getL_miss (z:=MemberV.zero) (fun j hj=>hI j hj hj);have e1:memOf r n=MemberV.zero:=g1;have e2:memIs r n=false:=by simp [memIs,g2]
  rw [e1,e2];simp only [go_sem,seval,lml,hdx,MemberV.cells,MemberV.zero]
theorem refState_spec (s:StateV) (n:Int) (hl:s.roll.small):Abs.Spec Tryz.prog 73 [] [.agg s.cells,.int .i64 n] [] (.int .i64 (stOf s.roll n)):=by
 have h:=refMemberFind_spec s.roll n hl;simp only [stOf];obtain ⟨g,hg⟩:=nmE (memOf s.roll n);rw [<- hg] at h |-;simp only [RollV.cells,MemberV.cells] at h;simp only [StateV.cells];refine sgo 16 2 [.tmp 4] mixed Tryz.func73 ?_;simp only [go_sem,seval];refine CallN.pure h ?_;simp only [go_sem,seval]
theorem refListed_spec (s:StateV) (n:Int) (hl:s.roll.small):Abs.Spec Tryz.prog 74 [] [.agg s.cells,.int .i64 n] [] (.bool (instIs s.roll n)):=by
 have h:=refFindInst_spec s.roll n hl;obtain ⟨g,hg⟩:=nmE (instOf s.roll n);rw [<- hg] at h;simp only [RollV.cells,InstV.cells] at h;simp only [StateV.cells];refine sgo 15 2 [.tmp 4] mixed Tryz.func74 ?_;simp only [go_sem,seval];refine CallN.pure h ?_;simp only [go_sem,seval]
theorem refBids_spec (s:StateV) (hl:s.bids.length < 2 ^ 30):Abs.Spec Tryz.prog 76 [] [.agg s.cells] [] (.bool (!decide (32 < (s.bids.length:Int))&&s.bids.all bidOk)):=by
 simp only [StateV.cells];refine sgo 43 1 [.tmp 2] mixed Tryz.func76 ?_;simp only [go_sem,seval,lml];refine LoopK.walk (S:=Unit) s.bids.length [1] [32] (fun i _=>[(3,.int .i64 i)]) (fun i _=>[]) (fun i _=>∀ j (hj:j < s.bids.length),j < i->bidOk s.bids[j]=true) () (by intros;omega) ?_ ?_ ?_
 ·simp only [go_sem,seval]<;>simp
 ·intro i _ hi hdi hw hI;have hm:=map_at (c:=BidV.cells) s.bids hi;have h1:=refKey_spec s.bids[i].who s.bids[i].inst;have h2:=refWho_spec s.bids[i].src;have h3:=within22_spec s.bids[i].qty 1 1048576;have h4:=within22_spec s.bids[i].price 1 1073741824;have hli:(i:Int) < (s.bids.length:Int):=by omega
  have e0:=all_next hi hI;have e1:bidOk s.bids[i]=false->(!decide (32 < (s.bids.length:Int))&&s.bids.all bidOk)=false:=fun h=>by simp [all_no hi h]
  simp only [bidOk] at e0 e1;simp only [BidV.cells] at hm;simp only [go_sem,seval,hdi,lml,hm];(with_reducible and_intros)<;>first|exact .dq|omega|skip
  refine CallN.pure h1 ?_;cases b1:keyB s.bids[i].who s.bids[i].inst
  ·have:=e1 (by simp [b1]);simp only [go_sem,seval,this]
  simp only [go_sem,seval];refine CallN.pure h2 ?_;cases b2:within s.bids[i].src 1 16
  ·have:=e1 (by simp [b2]);simp only [go_sem,seval,this]
  simp only [go_sem,seval];refine CallN.pure h3 ?_;cases b3:within s.bids[i].qty 1 1048576
  ·have:=e1 (by simp [b3]);simp only [go_sem,seval,this]
  simp only [go_sem,seval];refine CallN.pure h4 ?_;cases b4:within s.bids[i].price 1 1073741824
  ·have:=e1 (by simp [b4]);simp only [go_sem,seval,this]
  simp only [go_sem,seval,hw];refine RoundK.step () hi (e0 (by simp [b1,b2,b3,b4])) ?_;simp only [go_sem,seval]
 ·intro _ hdx hI;have hA:=all_yes hI;have e:decide ((s.bids.length:Int)<=32) = !decide (32 < (s.bids.length:Int)):=by rw [Bool.eq_iff_iff];simp
  simp only [go_sem,seval,hdx,lml,hA,Bool.and_true,e]
theorem refSeats_spec (s:StateV) (hl:s.seats.length < 2 ^ 30):Abs.Spec Tryz.prog 77 [] [.agg s.cells] [] (.bool (chB seatOk seatLt s.seats)):=by
 simp only [StateV.cells];refine sgo 43 1 [.tmp 2] mixed Tryz.func77 ?_;simp only [go_sem,seval,lml];refine LoopK.count s.seats.length [1] [32] (fun i=>[(3,.int .i64 i)]) (fun i=>[]) (fun i=>∀ j < i,chAt seatOk seatLt s.seats j=true) (by simp) ?_ ?_
 ·simp only [go_sem,seval]<;>simp
 intro i hi hI;simp only [go_sem,seval,lml];refine CondE.splitD (fun h=>?_) (fun h=>?_)
 ·have hi':i < s.seats.length:=by omega
  have hw:IntKind.wrap .i64 ((i:Int)+1)=((i+1:Nat):Int):=by rw [wr64 (by omega) (by omega)];omega
  have hm:=map_at (c:=SeatV.cells) s.seats hi';have e0:=ch_next (i:=i) hI;have e1:chAt seatOk seatLt s.seats i=false->chB seatOk seatLt s.seats=false:=chB_no hi';have h1:=within22_spec s.seats[i].client 1 8;have h2:=within22_spec s.seats[i].seq 1 1099511627776;simp only [SeatV.cells] at hm;rcases Nat.eq_zero_or_pos i with rfl | hpos
  ·have hk:=chAt_zero (ok:=seatOk) (lt:=seatLt) hi';simp only [seatOk,seatLt] at hk;simp only [go_sem,seval,hm,lml]
   repeat' with_reducible first|apply And.intro|exact .dq|refine CallN.pure (by assumption) ?_|refine CallN.pure (h1) ?_|refine CallN.pure (h2) ?_|refine .splitDN (fun h=>?_) fun h=>?_|refine .splitD (fun h=>?_) fun h=>?_|refine .splitN (fun h=>?_) fun h=>?_|refine .split (fun h=>?_) fun h=>?_|refine .id ?_|refine RoundK.next (by omega) ?_ ?_|exact trivial|simp only [*,go_sem,seval]
   all_goals first
    | omega
    | rfl
    | (refine e0 ?_;clear e0 e1;rw [hk];clear hk;simp_all;done)
    | (refine e0 ?_;clear e0 e1;rw [hk];clear hk;simp_all;omega)
    | (rw [e1 ?_];clear e0 e1;rw [hk];clear hk;simp_all;done)
    | (rw [e1 ?_];clear e0 e1;rw [hk];clear hk;simp_all;omega)
    | (rw [e1 ?_]
       ·rfl
       ·clear e0 e1;rw [hk];clear hk;simp_all;done)
    | (rw [e1 ?_]
       ·rfl
       ·clear e0 e1;rw [hk];clear hk;simp_all;omega)
  ·obtain ⟨j,rfl⟩:∃ j,i=j+1:=⟨i-1,by omega⟩
   have hj:j < s.seats.length:=by omega
   have hw1:IntKind.wrap .i64 (((j+1:Nat):Int)-1)=(j:Int):=by rw [wr64 (by omega) (by omega)];omega
   have hk:=chAt_succ (ok:=seatOk) (lt:=seatLt) hi';simp only [seatOk,seatLt] at hk;have hmj:=map_at (c:=SeatV.cells) s.seats hj;have hlt:decide (s.seats[j].client < s.seats[j+1].client) = !decide (s.seats[j+1].client<=s.seats[j].client):=by rw [Bool.eq_iff_iff];simp
   rw [hlt] at hk;clear hlt;simp only [SeatV.cells] at hmj;simp only [go_sem,seval,hm,lml]
   repeat' with_reducible first|apply And.intro|exact .dq|refine CallN.pure (by assumption) ?_|refine CallN.pure (h1) ?_|refine CallN.pure (h2) ?_|refine .splitDN (fun h=>?_) fun h=>?_|refine .splitD (fun h=>?_) fun h=>?_|refine .splitN (fun h=>?_) fun h=>?_|refine .split (fun h=>?_) fun h=>?_|refine .id ?_|refine RoundK.next (by omega) ?_ ?_|exact trivial|simp only [*,go_sem,seval,hmj,lml]
   all_goals first
    | omega
    | rfl
    | (refine e0 ?_;clear e0 e1;rw [hk];clear hk;simp_all;done)
    | (refine e0 ?_;clear e0 e1;rw [hk];clear hk;simp_all;omega)
    | (rw [e1 ?_];clear e0 e1;rw [hk];clear hk;simp_all;done)
    | (rw [e1 ?_];clear e0 e1;rw [hk];clear hk;simp_all;omega)
    | (rw [e1 ?_]
       ·rfl
       ·clear e0 e1;rw [hk];clear hk;simp_all;done)
    | (rw [e1 ?_]
       ·rfl
       ·clear e0 e1;rw [hk];clear hk;simp_all;omega)
 have hCH:=chB_yes (fun j (hj:j < s.seats.length)=>hI j (by omega));clear hI;simp only [go_sem,seval,hCH]
theorem stOf_rng {r:RollV} (h:r.okB=true) (n:Int):0<=stOf r n/\stOf r n<=3:=by
 simp only [RollV.okB,bae] at h;have hm:=rises_ok h.1.1;unfold stOf memOf;generalize r.ms=ms at hm
 induction ms with
 | nil=>simp [getL,MemberV.zero]
 | cons x t ih =>
  simp only [getL];split
  ·have:=hm x (by simp);simp only [MemberV.ok,within,bae,decide_eq_true_eq] at this;omega
  ·exact ih fun y hy=>hm y (by simp [hy])
theorem open_eq {r:RollV} (h:r.okB=true) (n:Int):openB r n=(!(stOf r n==0)&&!(stOf r n==3)):=by
 have:=stOf_rng h n;rw [Bool.eq_iff_iff];simp only [openB,Bool.or_eq_true,bae,Bool.not_eq_true',beq_iff_eq,beq_eq_false_iff_ne];omega
theorem refRightS_spec (s:StateV) (hs:s.small) (hr:s.rng):Abs.Spec Tryz.prog 23 [] [.agg s.cells] [] (.bool (rightS s)):=by
 have hro:=hs.roll.small;have a1:=within22_spec s.now 0 1099511627776;have a2:=within22_spec s.day 0 1099511627776;have a3:=within22_spec s.phase 0 2;have c2:=refRoll_spec s.roll hro;have c3:=refBook_spec s.book hs.book hr.qs;have c4:=ref8Ledger_spec s.led hs.led hr.bs;have c5:=refPledges_spec s.ps (by have:=hs.ps;omega);have c6:=refCalls_spec s.calls hs.calls;have kS:=fun n=>refState_spec s n hro
 have kL:=fun n=>refListed_spec s n hro
 have kH:=fun n=>refHeld_spec s.roll n hro
 have c7:=refBids_spec s hs.bids;have c8:=refSeats_spec s hs.seats;obtain ⟨hb1,hb2⟩:=hs.book;have hpl:=hs.ps;have hcl:=hs.calls;have hop:=fun h n=>open_eq (r:=s.roll) h n
 simp only [RollV.cells,BookV.cells,LedV.cells] at c2 c3 c4 kH;simp only [StateV.cells] at kS kL c7 c8 |-;clear hs hr hro;refine sgo 197 1 [.tmp 2] mixed Tryz.func23 ?_;simp only [go_sem,seval];refine CallN.pure a1 ?_;cases q1:within s.now 0 1099511627776
 ·have e:rightS s=false:=by simp [rightS,clockB,q1]
  simp only [go_sem,seval,e]
 simp only [go_sem,seval];refine CallN.pure a2 ?_;cases q2:within s.day 0 1099511627776
 ·have e:rightS s=false:=by simp [rightS,clockB,q2]
  simp only [go_sem,seval,e]
 simp only [go_sem,seval];refine CallN.pure a3 ?_;cases q3:within s.phase 0 2
 ·have e:rightS s=false:=by simp [rightS,clockB,q3]
  simp only [go_sem,seval,e]
 simp only [go_sem,seval];refine CallN.pure c2 ?_;cases b2:s.roll.okB
 ·have e:rightS s=false:=by simp [rightS,b2]
  simp only [go_sem,seval,e]
 simp only [go_sem,seval];refine CallN.pure c3 ?_;cases b3:s.book.okB
 ·have e:rightS s=false:=by simp [rightS,b3]
  simp only [go_sem,seval,e]
 simp only [go_sem,seval];refine CallN.pure c4 ?_;cases b4:s.led.okB
 ·have e:rightS s=false:=by simp [rightS,b4]
  simp only [go_sem,seval,e]
 simp only [go_sem,seval];refine CallN.pure c5 ?_;cases b5:checkB s.ps
 ·have e:rightS s=false:=by simp [rightS,b5]
  simp only [go_sem,seval,e]
 simp only [go_sem,seval];refine CallN.pure c6 ?_;cases b6:chB callOk callLt s.calls
 ·have e:rightS s=false:=by simp [rightS,b6]
  simp only [go_sem,seval,e]
 have hop:=hop b2;have e:rightS s=(knownB s&&(!decide (32 < (s.bids.length:Int))&&(s.bids.all bidOk&&chB seatOk seatLt s.seats))):=by simp only [rightS,clockB,q1,q2,q3,b2,b3,b4,b5,b6,Bool.true_and]
 rw [e];clear e a1 a2 a3 c2 c3 c4 c5 c6 q1 q2 q3 b2 b3 b4 b5 b6;obtain ⟨R,hR⟩:=nmE ((!decide (32 < (s.bids.length:Int))&&(s.bids.all bidOk&&chB seatOk seatLt s.seats)));rw [<- hR];simp only [go_sem,seval,lml];refine LoopK.walk (S:=Unit) s.book.qs.length [1] [32] (fun i _=>[(3,.int .i64 i)]) (fun i _=>[]) (fun i _=>∀ j (hj:j < s.book.qs.length),j < i->posK s.roll s.book.qs[j]=true) () (by intros;omega) ?_ ?_ ?_
 ·simp only [go_sem,seval]<;>simp
 ·intro i _ hi hdi hw hI;have hm:=map_at (c:=PosV.cells) s.book.qs hi;have hli:(i:Int) < (s.book.qs.length:Int):=by omega
  have e0:=all_next hi hI;have e1:posK s.roll s.book.qs[i]=false->(knownB s&&R)=false:=fun h=>by simp [knownB,all_no hi h]
  simp only [posK,hop] at e1;simp only [PosV.cells] at hm;simp only [go_sem,seval,hdi,lml,hm];(with_reducible and_intros)<;>first|exact .dq|omega|skip
  refine CallN.pure (kS s.book.qs[i].who) ?_;cases b1:stOf s.roll s.book.qs[i].who==0
  case true =>
   have:=e1 (by simp [b1]);simp only [go_sem,seval,b1,this];(with_reducible and_intros)<;>first|exact .dq|omega|skip
  cases b2:stOf s.roll s.book.qs[i].who==3
  case true =>
   have:=e1 (by simp [b2]);simp only [go_sem,seval,b1,b2,this];(with_reducible and_intros)<;>first|exact .dq|omega|skip
  simp only [go_sem,seval,b1,b2,hm,lml];(with_reducible and_intros)<;>first|exact .dq|omega|skip
  refine CallN.pure (kL s.book.qs[i].inst) ?_;cases b3:instIs s.roll s.book.qs[i].inst
  ·have:=e1 (by simp [b3]);simp only [go_sem,seval,this]
  simp only [go_sem,seval,hw];refine RoundK.step () hi (e0 (by simp only [posK,hop,b1,b2,b3];rfl)) ?_;simp only [go_sem,seval]
 intro _ hdx hI;have hA:=all_yes hI;have eA:(knownB s&&R)=((s.book.ts.all (trdK s.roll)&&(s.ps.all (plgK s.roll)&&s.calls.all (callK s.roll)))&&R):=by simp [knownB,hA]
 rw [eA];clear eA hA hI;simp only [go_sem,seval,hdx,lml];clear hdx;refine LoopK.walk (S:=Unit) s.book.ts.length [1] [32] (fun i _=>[(5,.int .i64 i)]) (fun i _=>[]) (fun i _=>∀ j (hj:j < s.book.ts.length),j < i->trdK s.roll s.book.ts[j]=true) () (by intros;omega) ?_ ?_ ?_
 ·simp only [go_sem,seval]<;>simp
 ·intro i _ hi hdi hw hI;have hm:=map_at (c:=TradeV.cells) s.book.ts hi;have hli:(i:Int) < (s.book.ts.length:Int):=by omega
  have e0:=all_next hi hI;have e1:trdK s.roll s.book.ts[i]=false->((s.book.ts.all (trdK s.roll)&&(s.ps.all (plgK s.roll)&&s.calls.all (callK s.roll)))&&R)=false:=fun h=>by simp [all_no hi h]
  simp only [trdK] at e1;simp only [TradeV.cells] at hm;simp only [go_sem,seval,hdi,lml,hm];(with_reducible and_intros)<;>first|exact .dq|omega|skip
  refine CallN.pure (kS s.book.ts[i].buyer) ?_;cases b1:stOf s.roll s.book.ts[i].buyer==0
  case true =>
   have:=e1 (by simp [b1]);simp only [go_sem,seval,b1];exact this.symm
  simp only [go_sem,seval,b1,hm,lml];(with_reducible and_intros)<;>first|exact .dq|omega|skip
  refine CallN.pure (kS s.book.ts[i].seller) ?_;cases b2:stOf s.roll s.book.ts[i].seller==0
  case true =>
   simp only [go_sem,seval,b2];exact (e1 (by simp [b2])).symm
  simp only [go_sem,seval,b2,hm,lml];(with_reducible and_intros)<;>first|exact .dq|omega|skip
  refine CallN.pure (kL s.book.ts[i].inst) ?_;cases b3:instIs s.roll s.book.ts[i].inst
  ·simp only [go_sem,seval];exact (e1 (by simp [b3])).symm
  simp only [go_sem,seval,hw];refine RoundK.step () hi (e0 (by simp only [trdK,b1,b2,b3];rfl)) ?_;simp only [go_sem,seval]
 intro _ hdx hI;have hA:=all_yes hI;rw [hA,Bool.true_and];clear hA hI;have hpln:(pl s.ps).length=s.ps.length:=pl_len s.ps;simp only [go_sem,seval,hdx];clear hdx;refine LoopK.walk (S:=Unit) s.ps.length [1] [32] (fun i _=>[(6,.int .i64 i)]) (fun i _=>[]) (fun i _=>∀ j (hj:j < s.ps.length),j < i->plgK s.roll s.ps[j]=true) () (by intros;omega) ?_ ?_ ?_
 ·simp only [go_sem,seval]<;>simp
 ·intro i _ hi hdi hw hI;have hm:=pl_at s.ps hi;have hli:(i:Int) < (s.ps.length:Int):=by omega
  have e0:=all_next hi hI;have e1:plgK s.roll s.ps[i]=false->((s.ps.all (plgK s.roll)&&s.calls.all (callK s.roll))&&R)=false:=fun h=>by simp [all_no hi h]
  have e2:plgK s.roll s.ps[i]=((!(stOf s.roll s.ps[i].who==0)&&!(stOf s.roll s.ps[i].who==3))&&astIs s.roll s.ps[i].asset):=by simp only [plgK,hop]
  have hA:=kH s.ps[i].asset;obtain ⟨g,hg⟩:=nmE (getL AssetV.a s.ps[i].asset ⟨0,0,0,0⟩ s.roll.xs);have hAe:decide (0<=posL AssetV.a s.ps[i].asset s.roll.xs)=astIs s.roll s.ps[i].asset:=rfl;rw [<- hg,hAe] at hA;simp only [AssetV.cells] at hA;rw [e2] at e0 e1;clear e2;simp only [go_sem,seval,hdi,hm];(with_reducible and_intros)<;>first|exact .dq|omega|skip
  refine CallN.pure (kS s.ps[i].who) ?_;simp only [go_sem,seval,hm];(with_reducible and_intros)<;>first|exact .dq|omega|skip
  refine CallN.pure hA ?_;cases b1:stOf s.roll s.ps[i].who==0
  case true =>
   simp only [go_sem,seval,b1];(with_reducible and_intros)<;>first|exact .dq|omega|skip
   exact (e1 (by simp [b1])).symm
  cases b2:stOf s.roll s.ps[i].who==3
  case true =>
   simp only [go_sem,seval,b1,b2];(with_reducible and_intros)<;>first|exact .dq|omega|skip
   exact (e1 (by simp [b2])).symm
  cases b3:astIs s.roll s.ps[i].asset
  ·simp only [go_sem,seval,b1,b2,b3];(with_reducible and_intros)<;>first|exact .dq|omega|skip
   exact (e1 (by simp [b3])).symm
  simp only [go_sem,seval,b1,b2,b3,hw];(with_reducible and_intros)<;>first|exact .dq|omega|skip
  refine RoundK.step () hi (e0 (by simp [b1,b2,b3])) ?_;simp only [go_sem,seval]
 intro _ hdx hI;have hA:=all_yes hI;rw [hA,Bool.true_and];clear hA hI;simp only [go_sem,seval,hdx,lml];clear hdx;refine LoopK.walk (S:=Unit) s.calls.length [1] [32] (fun i _=>[(10,.int .i64 i)]) (fun i _=>[]) (fun i _=>∀ j (hj:j < s.calls.length),j < i->callK s.roll s.calls[j]=true) () (by intros;omega) ?_ ?_ ?_
 ·simp only [go_sem,seval]<;>simp
 ·intro i _ hi hdi hw hI;have hm:=map_at (c:=CallV.cells) s.calls hi;have hli:(i:Int) < (s.calls.length:Int):=by omega
  have e0:=all_next hi hI;have e1:callK s.roll s.calls[i]=false->(s.calls.all (callK s.roll)&&R)=false:=fun h=>by simp [all_no hi h]
  simp only [CallV.cells] at hm;simp only [go_sem,seval,hdi,lml,hm];(with_reducible and_intros)<;>first|exact .dq|omega|skip
  refine CallN.pure (kS s.calls[i].who) ?_;cases b1:stOf s.roll s.calls[i].who==1
  ·simp only [go_sem,seval,bne,b1];exact (e1 b1).symm
  simp only [go_sem,seval,bne,b1,hw];refine RoundK.step () hi (e0 b1) ?_;simp only [go_sem,seval]
 intro _ hdx hI;have hA:=all_yes hI;rw [hA,Bool.true_and,hR,<- Bool.and_assoc];clear hA hI hR;simp only [go_sem,seval,hdx,lml];refine CallN.pure c7 ?_;cases b7:(!decide (32 < (s.bids.length:Int))&&s.bids.all bidOk)
 ·simp only [go_sem,seval,Bool.false_and]
 simp only [go_sem,seval];refine CallN.pure c8 ?_;simp only [go_sem,seval,Bool.true_and]
theorem Spec.le_args {P:Program} {f:FuncId} {hs ds ds' hs':List D} {d:D} (h:Abs.Spec P f hs ds hs' d) (hl:leDL (fun _=>none) (fun _=>false) ds' ds):Abs.Spec P f hs ds' hs' d:=by
 obtain ⟨h1,h2⟩:=leDL_get hl;refine ⟨h.1,?_⟩;intro w l0 G0 own0 S0 vs hl0 hG hsz hr hobj;refine h.2 w l0 G0 own0 S0 vs hl0 hG (by rw [hsz,h1]) ?_ hobj;intro i v y hv hy;have hi:i < ds'.length:=by rw [h1];exact (List.getElem?_eq_some_iff.1 hy).1
 have hx:ds'[i]?=some ds'[i]:=List.getElem?_eq_getElem hi;exact leD.rep (C:=cx w l0 S0) (C':=cx w l0 S0) (fun _ _ h=>h) (by intro s r h;cases h) (by intro s _ h;cases h) (hr i v _ hv hx) (h2 i _ _ hx hy)
def qZ (s:StateV) (n:Int):Bool:=sumL (qtysL n s.book.qs)==0
def mZ (s:StateV) (c:Int):Bool:=sumL (monL c [] s.led.bs)==0
def pZ (s:StateV) (c:Int):Bool:=sumL (varL c s.led.bs++papL s.roll c s.book.qs)==0
def holdsB (s:StateV):Bool:=rightS s&&((List.range 8).all (fun i=>qZ s ((i:Int)+1))&&(List.range 3).all (fun c=>mZ s (c:Nat)&&pZ s (c:Nat)))
theorem res_zero (S:Int):(resE S==0&&resN S==0)=(S==0):=by
 rw [Bool.eq_iff_iff];simp only [resE,resN,bae,beq_iff_eq];constructor
 ·rintro ⟨h1,h2⟩
  split at h1
  ·rename_i h;rw [if_pos h] at h2;exact h2
  ·cases h1
 ·rintro rfl
  exact ⟨rfl,rfl⟩
theorem range_no {n i:Nat} {f:Nat->Bool} (h:i < n) (hf:f i=false):(List.range n).all f=false:=by
 cases hc:(List.range n).all f
 ·rfl
 ·rw [List.all_eq_true.1 hc i (List.mem_range.2 h)] at hf;cases hf
theorem range_yes {n:Nat} {f:Nat->Bool} (h:∀ i < n,f i=true):(List.range n).all f=true:=List.all_eq_true.2 fun i hi=>h i (List.mem_range.1 hi)
theorem lt_next {n:Nat} {f:Nat->Bool} (hI:∀ i < n,f i=true) (h:f n=true):∀ i < n+1,f i=true:=fun i hi=>by
 rcases Nat.lt_or_ge i n with h1 | h1
 ·exact hI i h1
 ·obtain rfl:i=n:=by omega
  exact h
structure StateV.mid (s:StateV):Prop where
 small:s.small
 bs:s.led.bs.length < 2 ^ 20
 qs:s.book.qs.length < 2 ^ 20
 ns:s.roll.ns.length < 2 ^ 20
theorem paper1_spec (a b:InstV):Abs.Spec Tryz.prog 38 [] [.agg a.cells,.eaddr b.cells] [] (.bool (a.no==b.no)):=by
 simp only [InstV.cells];refine sgo 9 2 [.tmp 3] mixed Tryz.func38 ?_;simp only [go_sem,seval]
theorem instIndex_spec (xs:List InstV) (x:InstV) (hl:xs.length < 2 ^ 60):Abs.Spec Tryz.prog 118 [] [.sl 12 (xs.map InstV.cells),.fn 38 [.eaddr x.cells]] [] (.int .i64 (posL InstV.no x.no xs)):=by
 have h:=fun a=>paper1_spec a x
 simp only [InstV.cells] at h |-;refine sgo 19 2 [.tmp 4] mixed Tryz.func118 ?_;simp only [go_sem,seval,lml];refine LoopK.walk (S:=Unit) xs.length [0,1,7] [] (fun i _=>[(8,.int .i64 i)]) (fun i _=>[]) (fun i _=>∀ j (hj:j < xs.length),j < i->xs[j].no≠x.no) () (by intros;omega) ?_ ?_ ?_
 ·simp only [go_sem,seval]<;>simp
 ·intro i _ hi hdi hw hI;have hm:=map_at (c:=InstV.cells) xs hi;have hli:(i:Int) < (xs.length:Int):=by omega
  have hc:=h xs[i];simp only [InstV.cells] at hm;simp only [go_sem,seval,hdi,lml,hm];(with_reducible and_intros)<;>first|exact .dq|omega|skip
  refine CallN.pure hc ?_;cases hb:xs[i].no==x.no
  ·have hb2:xs[i].no≠x.no:=by simpa using hb
   simp only [go_sem,seval,hb,hw];refine RoundK.step () hi ?_ ?_
   ·intro j hj hji;rcases Nat.lt_or_ge j i with h | h
    ·exact hI j hj h
    ·obtain rfl:j=i:=by omega
     exact hb2
   ·simp only [go_sem,seval]
  ·have hb2:xs[i].no=x.no:=by simpa using hb
   obtain ⟨g1,g2⟩:=getL_hit (z:=InstV.zero) hi hI hb2;rw [g2];simp only [go_sem,seval,hb]
 ·intro _ hdx hI;obtain ⟨g1,g2⟩:=getL_miss (z:=InstV.zero) (fun j hj=>hI j hj hj);rw [g2];simp only [go_sem,seval,hdx]
theorem instContains_spec (xs:List InstV) (x:InstV) (hl:xs.length < 2 ^ 60):Abs.Spec Tryz.prog 37 [] [.sl 12 (xs.map InstV.cells),.fn 38 [.eaddr x.cells]] [] (.bool (seenB xs x.no)):=by
 have h:=instIndex_spec xs x hl;have e:decide (0<=posL InstV.no x.no xs)=seenB xs x.no:=by rw [pos_any];rfl
 simp only [InstV.cells] at h |-;refine sgo 9 2 [.tmp 4] mixed Tryz.func37 ?_;simp only [go_sem,seval];refine CallN.pure h ?_;simp only [go_sem,seval,e]
theorem auditPaper_spec (s:StateV) (c:Int) (hr:s.rng) (hl:s.led.bs.length < 2 ^ 20) (hq:s.book.qs.length < 2 ^ 11) (hn:s.roll.ns.length < 2 ^ 11):Abs.Spec Tryz.prog 12 [] [.agg s.cells,.int .i64 c] [] (.tup [.int .i64 (resN (sumL (varL c s.led.bs++papL s.roll c s.book.qs))),.int .i64 (resE (sumL (varL c s.led.bs++papL s.roll c s.book.qs)))]):=by
 have l1:=varL_len c s.led.bs;have l2:=papI_len (c:=c) (qs:=s.book.qs) s.roll.ns [];have l3:s.roll.ns.length*s.book.qs.length<=2048*2048:=Nat.mul_le_mul (by omega) (by omega)
 have hS:=auditSum_spec (varL c s.led.bs++papI c s.book.qs [] s.roll.ns) (by simp;omega) (fun q hq=>by
  rcases List.mem_append.1 hq with hq | hq
  ·exact in2_i64 (varL_rng hr.bs q hq)
  ·exact papI_in2 hr.qs _ _ hr.ns q hq)
 have hsum:sumL (varL c s.led.bs++papI c s.book.qs [] s.roll.ns)=sumL (varL c s.led.bs++papL s.roll c s.book.qs):=by
  rw [sumL_append,sumL_append,pap_eq]
 rw [hsum] at hS;simp only [StateV.cells];refine sgo 83 2 [.tmp 4,.tmp 5] mixed Tryz.func12 ?_;simp only [go_sem,seval,lml];refine LoopK.walk (S:=Unit) s.led.bs.length [1,2,15,16] [48,272] (fun i _=>[(17,.int .i64 i),(6,.ref 512)]) (fun i _=>[(512,.own 2 (wds (varL c (s.led.bs.take i))))]) (fun _ _=>True) () trivial ?_ ?_ ?_
 ·simp only [go_sem,seval]<;>simp [varL,wds]
 ·intro i _ hi hdi hwi _;have hm:=map_at (c:=BalV.cells) s.led.bs hi;have hs:=varL_step c s.led.bs hi;have hlen:=varL_len c (s.led.bs.take i);have hlt:(s.led.bs.take i).length=i:=by simp;omega
  obtain ⟨z,hz⟩:=nmE (s.led.bs[i]);have hO:=wideOf_spec z.sum (by rw [hz];exact (hr.bs _ (List.getElem_mem hi)).2.2.2);rw [<- hz] at hm hs;simp only [BalV.cells] at hm;simp only [wd] at hO;simp only [isVar] at hs;simp only [go_sem,seval,hdi,hm];(with_reducible and_intros)<;>first|exact .dq|omega|skip
  cases b1:z.kind==5
  ·simp only [b1,Bool.false_and,bfe,if_false] at hs;simp only [go_sem,seval,b1,hwi];refine RoundK.step () hi trivial ?_;simp only [go_sem,seval,hs]
  cases b2:z.who==0
  ·simp only [b1,b2,Bool.false_and,Bool.and_false,bfe,if_false] at hs;simp only [go_sem,seval,b1,b2,hwi];refine RoundK.step () hi trivial ?_;simp only [go_sem,seval,hs]
  cases b3:z.cur==c
  ·simp only [b1,b2,b3,Bool.and_false,bfe,if_false] at hs;simp only [go_sem,seval,b1,b2,b3,hwi];refine RoundK.step () hi trivial ?_;simp only [go_sem,seval,hs]
  simp only [b1,b2,b3,Bool.and_self,if_true] at hs;simp only [go_sem,seval,b1,b2,b3];refine CallN.pure hO ?_;simp only [go_sem,seval,hwi];(with_reducible and_intros)<;>first|exact .dq|omega|skip
  refine RoundK.step () hi trivial ?_;simp only [go_sem,seval,hs]<;>simp [wds,wd]
 intro _ hdx _;obtain ⟨Vs,hVs⟩:=nmE (varL c s.led.bs);rw [<- hVs] at hS l1;simp only [go_sem,seval,hdx,List.take_length,lml,<- hVs];clear hdx;refine LoopK.walk (S:=List Int) s.roll.ns.length [1,2,35,36] [48,592] (fun i _=>[(37,.int .i64 i),(6,.ref 1232)]) (fun _ L=>[(1232,.own 2 (wds (Vs++L)))]) (fun k L=>L.length<=k*s.book.qs.length/\L++papI c s.book.qs (s.roll.ns.take k) (s.roll.ns.drop k)=papI c s.book.qs [] s.roll.ns) [] (by simp) ?_ ?_ ?_
 ·simp only [go_sem,seval]<;>simp
 ·rintro k L hk hdk hwk ⟨hL,hI⟩
  have hm:=map_at (c:=InstV.cells) s.roll.ns hk;obtain ⟨x,hx⟩:=nmE (s.roll.ns[k]);have hxr:x.rng:=by rw [hx];exact hr.ns _ (List.getElem_mem hk)
  have hC:=instContains_spec (s.roll.ns.take k) x (by simp;omega);have htk:s.roll.ns.take (k+1)=s.roll.ns.take k++[x]:=by rw [List.take_succ_eq_append_getElem hk,hx]
  rw [drop_at hk,<- hx] at hI;rw [<- hx] at hm;simp only [papI] at hI;have hkm:(k+1)*s.book.qs.length=k*s.book.qs.length+s.book.qs.length:=Nat.succ_mul _ _;have hkk:k*s.book.qs.length<=2048*2048:=Nat.mul_le_mul (by omega) (by omega);have hmt:(s.roll.ns.map InstV.cells).take k=(s.roll.ns.take k).map InstV.cells:=(List.map_take ..).symm;have hkl:(k:Int)<=(s.roll.ns.length:Int):=by omega
  simp only [InstV.cells] at hm hC;simp only [go_sem,seval,hdk,hm];(with_reducible and_intros)<;>first|exact .dq|omega|skip
  cases b1:x.cur==c
  ·simp only [b1,Bool.false_and,bfe,if_false,List.nil_append] at hI;simp only [go_sem,seval,bne,b1,hwk];refine RoundK.step L hk ⟨by omega,by rw [htk];exact hI⟩ ?_;simp only [go_sem,seval]
  simp only [go_sem,seval,bne,b1,lml,hmt];(with_reducible and_intros)<;>first|exact .dq|omega|skip
  refine CallN.gen [] [] true (by simp) ?_;simp only [go_sem,seval,hmt];refine CallG.intro hC ?_;cases b2:seenB (s.roll.ns.take k) x.no
  case true =>
   simp only [b1,b2,Bool.not_true,Bool.and_false,bfe,if_false,List.nil_append] at hI;simp only [go_sem,seval,hwk];refine RoundK.step L hk ⟨by omega,by rw [htk];exact hI⟩ ?_;simp only [go_sem,seval]
  simp only [b1,b2,Bool.not_false,Bool.and_self,if_true] at hI;simp only [go_sem,seval,lml];refine LoopK.walk (S:=Unit) s.book.qs.length [1,2,10,35,36,37,57,58] [48,176,592,944] (fun i _=>[(59,.int .i64 i),(6,.ref 1232)]) (fun i _=>[(1232,.own 2 (wds (Vs++(L++costL x (s.book.qs.take i)))))]) (fun _ _=>True) () trivial ?_ ?_ ?_
  ·simp only [go_sem,seval]<;>simp [costL]
  ·intro i _ hi hdi hwi _;have hmp:=map_at (c:=PosV.cells) s.book.qs hi;have hs:=costL_step x s.book.qs hi;have hlen:=costL_len x (s.book.qs.take i);have hlt:(s.book.qs.take i).length=i:=by simp;omega
   obtain ⟨p,hp⟩:=nmE (s.book.qs[i]);have hpr:p.rng:=by rw [hp];exact hr.qs _ (List.getElem_mem hi)
   have hT:=times_spec x.mult p.cost hxr.2.2.1 hpr.2.2.2;have hwl:(Vs++(L++costL x (s.book.qs.take i))).length<=s.led.bs.length+(k*s.book.qs.length+i):=by simp;omega
   rw [<- hp] at hmp hs;simp only [PosV.cells] at hmp;simp only [go_sem,seval,hdi,hmp];(with_reducible and_intros)<;>first|exact .dq|omega|skip
   cases b3:p.inst==x.no
   ·simp only [b3,bfe,if_false] at hs;simp only [go_sem,seval,hwi];refine RoundK.step () hi trivial ?_;simp only [go_sem,seval,hs]
   simp only [b3,if_true] at hs;simp only [go_sem,seval];refine CallN.pure hT ?_;simp only [go_sem,seval,hwi];(with_reducible and_intros)<;>first|exact .dq|omega|skip
   refine RoundK.step () hi trivial ?_;simp only [go_sem,seval,hs]<;>simp [wds,wd]
  ·intro _ hdx _;have hcl:=costL_len x s.book.qs;simp only [go_sem,seval,hdx,List.take_length,hwk];refine RoundK.step (L++costL x s.book.qs) hk ⟨by simp only [List.length_append];omega,by rw [htk,List.append_assoc];exact hI⟩ ?_;simp only [go_sem,seval]
 ·rintro L hdx ⟨_,hI⟩
  simp only [List.drop_length,papI,List.append_nil] at hI;subst hI;simp only [go_sem,seval,hdx];refine CallN.gen [] [] true (by simp) ?_;simp only [go_sem,seval];refine CallG.intro hS ?_;simp only [go_sem,seval]
theorem auditHolds_spec (s:StateV) (hm:s.mid) (hq:s.book.qs.length < 2 ^ 11) (hn:s.roll.ns.length < 2 ^ 11) (hr:s.rng):Abs.Spec Tryz.prog 9 [] [.agg s.cells] [] (.bool (holdsB s)):=by
 have c1:=closeCheck_spec s hm.small;have c2:=fun n=>auditQty_spec s n hr (by have:=hm.qs;omega)
 have c3:=fun c=>Spec.le_args (auditMoney_spec s c [] hr (by have:=hm.bs;omega) (by simp)) (ds':=[.agg s.cells,.int .i64 c,.nil]) (by simp [leDL,leD,ints])
 have c4:=fun c=>auditPaper_spec s c hr hm.bs hq hn
 simp only [StateV.cells] at c1 c2 c3 c4 |-;refine sgo 60 1 [.tmp 2] mixed Tryz.func9 ?_;simp only [go_sem,seval];refine CallN.pure c1 ?_;cases b1:rightS s
 ·have e:holdsB s=false:=by simp [holdsB,b1]
  simp only [go_sem,seval,e,b1]<;>simp
 have e:holdsB s=((List.range 8).all (fun i=>qZ s ((i:Int)+1))&&(List.range 3).all (fun c=>mZ s (c:Nat)&&pZ s (c:Nat))):=by simp only [holdsB,b1,Bool.true_and]
 rw [e];simp only [b1];clear e b1 c1;obtain ⟨A,hA⟩:=nmE ((List.range 8).all (fun i=>qZ s ((i:Int)+1)));obtain ⟨B,hB⟩:=nmE ((List.range 3).all (fun c=>mZ s (c:Nat)&&pZ s (c:Nat)));rw [<- hA,<- hB];simp only [go_sem,seval];refine LoopK.walk (S:=Unit) 8 [1] [32] (fun i _=>[(3,.int .i64 ((i:Int)+1))]) (fun i _=>[]) (fun i _=>∀ j < i,qZ s ((j:Int)+1)=true) () (by simp) ?_ ?_ ?_
 ·simp only [go_sem,seval]<;>simp
 ·intro i _ hi _ _ hI;obtain ⟨n,hn⟩:=nmE ((i:Int)+1);have hd:decide (n<=8)=true:=decide_eq_true (by omega);have hw:IntKind.wrap .i64 (n+1)=((i+1:Nat):Int)+1:=by rw [wr64 (by omega) (by omega)];omega
  have hz:=res_zero (sumL (qtysL n s.book.qs))
  have hbad:qZ s n=false->(A&&B)=false:=fun h=>by
   rw [hA,range_no hi (by rw [<- hn];exact h)];rfl
  clear hA hB;have hgood:qZ s n=true->∀ j < i+1,qZ s ((j:Int)+1)=true:=fun h=>lt_next (f:=fun j=>qZ s ((j:Int)+1)) hI (by rw [<- hn];exact h)
  simp only [qZ] at hbad hgood;rw [<- hn];simp only [go_sem,seval,hd];refine CallN.pure (c2 n) ?_;cases q2:resE (sumL (qtysL n s.book.qs))==0
  ·rw [q2,Bool.false_and] at hz;have:=hbad hz.symm;simp only [go_sem,seval,bne,q2]
   first | exact this.symm | simp only [qZ,this]
  cases q1:resN (sumL (qtysL n s.book.qs))==0
  ·rw [q1,Bool.and_false] at hz;have:=hbad hz.symm;simp only [go_sem,seval,bne,q1,q2]
   first | exact this.symm | simp only [qZ,this]
  rw [q1,q2] at hz;simp only [go_sem,seval,bne,q1,q2,hw];refine RoundK.step () hi (hgood (by rw [<- hz];rfl)) ?_;simp only [go_sem,seval]
 intro _ _ hI;rw [range_yes (f:=fun i=>qZ s ((i:Int)+1)) hI] at hA;rw [hA,Bool.true_and];clear hI hA;simp only [go_sem,seval];refine LoopK.walk (S:=Unit) 3 [1] [32] (fun i _=>[(30,.int .i64 i)]) (fun i _=>[]) (fun i _=>∀ j < i,(mZ s (j:Nat)&&pZ s (j:Nat))=true) () (by simp) ?_ ?_ ?_
 ·simp only [go_sem,seval]<;>simp
 ·intro i _ hi hdi hw hI;have hdi:decide ((i:Int) < 3)=true:=hdi;have hz:=res_zero (sumL (monL i [] s.led.bs));have hy:=res_zero (sumL (varL i s.led.bs++papL s.roll i s.book.qs));have hbad:(mZ s (i:Nat)&&pZ s (i:Nat))=false->B=false:=fun h=>by rw [hB];exact range_no hi h
  clear hB;have hgood:(mZ s (i:Nat)&&pZ s (i:Nat))=true->∀ j < i+1,(mZ s (j:Nat)&&pZ s (j:Nat))=true:=fun h=>lt_next (f:=fun j=>mZ s (j:Nat)&&pZ s (j:Nat)) hI h
  simp only [mZ,pZ] at hbad hgood;simp only [go_sem,seval,hdi];refine CallN.pure (c3 i) ?_;simp only [go_sem,seval];refine CallN.pure (c4 i) ?_;simp only [mZ,pZ];cases q3:resE (sumL (monL i [] s.led.bs))==0
  ·rw [q3,Bool.false_and] at hz;have:=hbad (by rw [<- hz];rfl);simp only [go_sem,seval,bne,q3,this]
  cases q4:resE (sumL (varL i s.led.bs++papL s.roll i s.book.qs))==0
  ·rw [q4,Bool.false_and] at hy;have:=hbad (by rw [<- hy];simp);simp only [go_sem,seval,bne,q3,q4,this]
  cases q1:resN (sumL (monL i [] s.led.bs))==0
  ·rw [q1,Bool.and_false] at hz;have:=hbad (by rw [<- hz];rfl);simp only [go_sem,seval,bne,q1,q3,q4,this]
  cases q2:resN (sumL (varL i s.led.bs++papL s.roll i s.book.qs))==0
  ·rw [q2,Bool.and_false] at hy;have:=hbad (by rw [<- hy];simp);simp only [go_sem,seval,bne,q1,q2,q3,q4,this]
  rw [q1,q3] at hz;rw [q2,q4] at hy;simp only [go_sem,seval,bne,q1,q2,q3,q4,hw];refine RoundK.step () hi ?_ ?_
  ·exact hgood (by rw [<- hz,<- hy];rfl)
  ·simp only [go_sem,seval]
 intro _ hdx hI;have hdx:decide ((3:Int) < 3)=false:=hdx;rw [range_yes (f:=fun c=>mZ s (c:Nat)&&pZ s (c:Nat)) hI] at hB;rw [hB];simp only [go_sem,seval,hdx]
def txts (l:List ByteArray):List (List D):=l.map fun s=>[.str s]
@[go_sem] theorem txts_len (l:List ByteArray):(txts l).length=l.length:=by simp [txts]
def prow (x:ByteArray × Bool):List D:=[.str x.1,.bool x.2]
def mk13 (s1 s2 s3 s4 s5 s6 s7 s8 s9 s10 s11 s12 s13:ByteArray) (b1 b2 b3 b4 b5 b6 b7 b8 b9 b10 b11 b12 b13:Bool):List (ByteArray × Bool):=[(s1,b1),(s2,b2),(s3,b3),(s4,b4),(s5,b5),(s6,b6),(s7,b7),(s8,b8),(s9,b9),(s10,b10),(s11,b11),(s12,b12),(s13,b13)]
theorem fold13 (s1 s2 s3 s4 s5 s6 s7 s8 s9 s10 s11 s12 s13:ByteArray) (b1 b2 b3 b4 b5 b6 b7 b8 b9 b10 b11 b12 b13:Bool):[[D.str s1,D.bool b1],[D.str s2,D.bool b2],[D.str s3,D.bool b3],[D.str s4,D.bool b4],[D.str s5,D.bool b5],[D.str s6,D.bool b6],[D.str s7,D.bool b7],[D.str s8,D.bool b8],[D.str s9,D.bool b9],[D.str s10,D.bool b10],[D.str s11,D.bool b11],[D.str s12,D.bool b12],[D.str s13,D.bool b13]]=(mk13 s1 s2 s3 s4 s5 s6 s7 s8 s9 s10 s11 s12 s13 b1 b2 b3 b4 b5 b6 b7 b8 b9 b10 b11 b12 b13).map prow:=rfl
theorem prow_at (l:List (ByteArray × Bool)) {i:Nat} (hi:i < l.length):(l.map prow).getD i []=[.str l[i].1,.bool l[i].2]:=by simp [prow,hi]
def diffL (L:List (ByteArray × Bool)):List ByteArray:=(L.filter fun x=>!x.2).map (·.1)
theorem diffL_len (L:List (ByteArray × Bool)):(diffL L).length<=L.length:=by
 rw [diffL,lml];exact List.length_filter_le ..
theorem diffL_step (L:List (ByteArray × Bool)) {i:Nat} (hi:i < L.length):diffL (L.take (i+1))=if L[i].2 then diffL (L.take i) else diffL (L.take i)++[L[i].1]:=by
 rw [List.take_succ_eq_append_getElem hi,diffL,List.filter_append,List.map_append];cases h:L[i].2<;>simp [diffL,h]
def parts (a b:StateV):List (ByteArray × Bool):=mk13 ⟨#[67,108,111,99,107]⟩ ⟨#[77,101,109,98,101,114,115]⟩ ⟨#[73,110,115,116,115]⟩ ⟨#[65,115,115,101,116,115]⟩ ⟨#[78,101,120,116]⟩ ⟨#[84,114,97,100,101,115]⟩ ⟨#[80,111,115,115]⟩ ⟨#[76,97,115,116]⟩ ⟨#[66,97,108,97,110,99,101,115]⟩ ⟨#[80,108,101,100,103,101,115]⟩ ⟨#[67,97,108,108,115]⟩ ⟨#[66,105,100,115]⟩ ⟨#[83,101,97,116,115]⟩ (a.now==b.now&&(a.day==b.day&&a.phase==b.phase)) (decide (a.roll.ms=b.roll.ms)) (decide (a.roll.ns=b.roll.ns)) (decide (a.roll.xs=b.roll.xs)) (a.book.next==b.book.next) (decide (a.book.ts=b.book.ts)) (decide (a.book.qs=b.book.qs)) (a.led.last==b.led.last) (decide (a.led.bs=b.led.bs)) (decide (a.ps=b.ps)) (decide (a.calls=b.calls)) (decide (a.bids=b.bids)) (decide (a.seats=b.seats))
theorem auditDiff_of (a b:StateV)
  (h1:Abs.Spec Tryz.prog 43 [] [.sl 3 (a.roll.ms.map MemberV.cells),.sl 3 (b.roll.ms.map MemberV.cells)] [] (.bool (decide (a.roll.ms=b.roll.ms))))
  (h2:Abs.Spec Tryz.prog 44 [] [.sl 12 (a.roll.ns.map InstV.cells),.sl 12 (b.roll.ns.map InstV.cells)] [] (.bool (decide (a.roll.ns=b.roll.ns))))
  (h3:Abs.Spec Tryz.prog 45 [] [.sl 4 (a.roll.xs.map AssetV.cells),.sl 4 (b.roll.xs.map AssetV.cells)] [] (.bool (decide (a.roll.xs=b.roll.xs))))
  (h4:Abs.Spec Tryz.prog 46 [] [.sl 7 (a.book.ts.map TradeV.cells),.sl 7 (b.book.ts.map TradeV.cells)] [] (.bool (decide (a.book.ts=b.book.ts))))
  (h5:Abs.Spec Tryz.prog 47 [] [.sl 4 (a.book.qs.map PosV.cells),.sl 4 (b.book.qs.map PosV.cells)] [] (.bool (decide (a.book.qs=b.book.qs))))
  (h6:Abs.Spec Tryz.prog 48 [] [.sl 4 (a.led.bs.map BalV.cells),.sl 4 (b.led.bs.map BalV.cells)] [] (.bool (decide (a.led.bs=b.led.bs))))
  (h7:Abs.Spec Tryz.prog 49 [] [.sl 3 (pl a.ps),.sl 3 (pl b.ps)] [] (.bool (decide (a.ps=b.ps))))
  (h8:Abs.Spec Tryz.prog 50 [] [.sl 4 (a.calls.map CallV.cells),.sl 4 (b.calls.map CallV.cells)] [] (.bool (decide (a.calls=b.calls))))
  (h9:Abs.Spec Tryz.prog 51 [] [.sl 5 (a.bids.map BidV.cells),.sl 5 (b.bids.map BidV.cells)] [] (.bool (decide (a.bids=b.bids))))
  (h10:Abs.Spec Tryz.prog 52 [] [.sl 7 (a.seats.map SeatV.cells),.sl 7 (b.seats.map SeatV.cells)] [] (.bool (decide (a.seats=b.seats)))) :
  Abs.Spec Tryz.prog 16 [] [.agg a.cells,.agg b.cells] [.own 1 (txts (diffL (parts a b)))] (.ref 0):=by
 simp only [StateV.cells];refine sgo 118 2 [.tmp 4] mixed Tryz.func16 ?_;simp only [go_sem,seval];(with_reducible and_intros)<;>first|exact .dq|omega|skip
 simp only [List.append_eq,List.cons_append,List.nil_append];simp only [go_sem,seval];(with_reducible and_intros)<;>first|exact .dq|omega|skip
 refine CallN.pure h1 ?_;simp only [go_sem,seval];(with_reducible and_intros)<;>first|exact .dq|omega|skip
 refine CallN.pure h2 ?_;simp only [go_sem,seval];(with_reducible and_intros)<;>first|exact .dq|omega|skip
 refine CallN.pure h3 ?_;simp only [go_sem,seval];(with_reducible and_intros)<;>first|exact .dq|omega|skip
 refine CallN.pure h4 ?_;simp only [go_sem,seval];(with_reducible and_intros)<;>first|exact .dq|omega|skip
 refine CallN.pure h5 ?_;simp only [go_sem,seval];(with_reducible and_intros)<;>first|exact .dq|omega|skip
 refine CallN.pure h6 ?_;simp only [go_sem,seval];(with_reducible and_intros)<;>first|exact .dq|omega|skip
 refine CallN.pure h7 ?_;simp only [go_sem,seval];(with_reducible and_intros)<;>first|exact .dq|omega|skip
 refine CallN.pure h8 ?_;simp only [go_sem,seval];(with_reducible and_intros)<;>first|exact .dq|omega|skip
 refine CallN.pure h9 ?_;simp only [go_sem,seval];(with_reducible and_intros)<;>first|exact .dq|omega|skip
 refine CallN.pure h10 ?_;simp only [go_sem,seval];(with_reducible and_intros)<;>first|exact .dq|omega|skip
 clear h1 h2 h3 h4 h5 h6 h7 h8 h9 h10;rw [fold13];generalize hL:mk13 _ _ _ _ _ _ _ _ _ _ _ _ _ _ _ _ _ _ _ _ _ _ _ _ _ _=L;have hlen:L.length=13:=by rw [<- hL];rfl
 have hres:diffL (parts a b)=diffL L:=by rw [<- hL];rfl
 rw [hres];clear hres hL;refine LoopK.walk (S:=Unit) 13 [102,103] [1648] (fun i _=>[(104,.int .i64 i),(5,.ref 1856)]) (fun i _=>[(1856,.own 1 (txts (diffL (L.take i))))]) (fun _ _=>True) () trivial ?_ ?_ ?_
 ·simp only [go_sem,seval]<;>simp [diffL,txts]
 ·intro i _ hi hdi hw _;have hdi:decide ((i:Int) < 13)=true:=hdi;have hi2:i < L.length:=by omega
  have hm:=prow_at L hi2;have hs:=diffL_step L hi2;have hn:=diffL_len (L.take i);have hn2:(L.take i).length<=13:=by simp;omega
  have hl1:(i:Int) < 13:=by omega
  obtain ⟨x,hx⟩:=nmE (L[i]);rw [<- hx] at hm hs;simp only [go_sem,seval,hdi,hm,lml,hlen];(with_reducible and_intros)<;>first|exact .dq|omega|skip
  cases hb:x.2
  ·rw [hb] at hs;simp only [bfe,if_false] at hs;simp only [go_sem,seval,hb,hw];(with_reducible and_intros)<;>first|exact .dq|omega|skip
   refine RoundK.step () hi trivial ?_;simp only [go_sem,seval,hs]<;>simp [txts]
  ·rw [hb] at hs;simp only [if_true] at hs;simp only [go_sem,seval,hb,hw];refine RoundK.step () hi trivial ?_;simp only [go_sem,seval,hs]
 ·intro _ hdx _;have hdx:decide ((13:Int) < 13)=false:=hdx;have ht:L.take 13=L:=List.take_of_length_le (by omega);simp only [go_sem,seval,hdx,ht]
theorem eqMemberV_nil:Abs.Spec Tryz.prog 43 [] [.sl 3 [],.sl 3 []] [] (.bool true):=by
 refine sgo 26 2 [.tmp 4] mixed Tryz.func43 ?_;simp only [go_sem,seval];refine LoopK.walk (S:=Unit) 0 [0,1,12] [208] (fun i _=>[(13,.int .i64 i)]) (fun _ _=>[]) (fun _ _=>True) () trivial ?_ ?_ ?_
 ·simp only [go_sem,seval]<;>simp
 ·intro i _ hi;omega
 ·intro _ hdx _;simp only [go_sem,seval,hdx]
theorem eqInstV_nil:Abs.Spec Tryz.prog 44 [] [.sl 12 [],.sl 12 []] [] (.bool true):=by
 refine sgo 26 2 [.tmp 4] mixed Tryz.func44 ?_;simp only [go_sem,seval];refine LoopK.walk (S:=Unit) 0 [0,1,12] [208] (fun i _=>[(13,.int .i64 i)]) (fun _ _=>[]) (fun _ _=>True) () trivial ?_ ?_ ?_
 ·simp only [go_sem,seval]<;>simp
 ·intro i _ hi;omega
 ·intro _ hdx _;simp only [go_sem,seval,hdx]
theorem eqAssetV_nil:Abs.Spec Tryz.prog 45 [] [.sl 4 [],.sl 4 []] [] (.bool true):=by
 refine sgo 26 2 [.tmp 4] mixed Tryz.func45 ?_;simp only [go_sem,seval];refine LoopK.walk (S:=Unit) 0 [0,1,12] [208] (fun i _=>[(13,.int .i64 i)]) (fun _ _=>[]) (fun _ _=>True) () trivial ?_ ?_ ?_
 ·simp only [go_sem,seval]<;>simp
 ·intro i _ hi;omega
 ·intro _ hdx _;simp only [go_sem,seval,hdx]
theorem eqTradeV_nil:Abs.Spec Tryz.prog 46 [] [.sl 7 [],.sl 7 []] [] (.bool true):=by
 refine sgo 26 2 [.tmp 4] mixed Tryz.func46 ?_;simp only [go_sem,seval];refine LoopK.walk (S:=Unit) 0 [0,1,12] [208] (fun i _=>[(13,.int .i64 i)]) (fun _ _=>[]) (fun _ _=>True) () trivial ?_ ?_ ?_
 ·simp only [go_sem,seval]<;>simp
 ·intro i _ hi;omega
 ·intro _ hdx _;simp only [go_sem,seval,hdx]
theorem eqPosV_nil:Abs.Spec Tryz.prog 47 [] [.sl 4 [],.sl 4 []] [] (.bool true):=by
 refine sgo 26 2 [.tmp 4] mixed Tryz.func47 ?_;simp only [go_sem,seval];refine LoopK.walk (S:=Unit) 0 [0,1,12] [208] (fun i _=>[(13,.int .i64 i)]) (fun _ _=>[]) (fun _ _=>True) () trivial ?_ ?_ ?_
 ·simp only [go_sem,seval]<;>simp
 ·intro i _ hi;omega
 ·intro _ hdx _;simp only [go_sem,seval,hdx]
theorem eqBalV_nil:Abs.Spec Tryz.prog 48 [] [.sl 4 [],.sl 4 []] [] (.bool true):=by
 refine sgo 26 2 [.tmp 4] mixed Tryz.func48 ?_;simp only [go_sem,seval];refine LoopK.walk (S:=Unit) 0 [0,1,12] [208] (fun i _=>[(13,.int .i64 i)]) (fun _ _=>[]) (fun _ _=>True) () trivial ?_ ?_ ?_
 ·simp only [go_sem,seval]<;>simp
 ·intro i _ hi;omega
 ·intro _ hdx _;simp only [go_sem,seval,hdx]
theorem eqPlg_nil:Abs.Spec Tryz.prog 49 [] [.sl 3 [],.sl 3 []] [] (.bool true):=by
 refine sgo 26 2 [.tmp 4] mixed Tryz.func49 ?_;simp only [go_sem,seval];refine LoopK.walk (S:=Unit) 0 [0,1,12] [208] (fun i _=>[(13,.int .i64 i)]) (fun _ _=>[]) (fun _ _=>True) () trivial ?_ ?_ ?_
 ·simp only [go_sem,seval]<;>simp
 ·intro i _ hi;omega
 ·intro _ hdx _;simp only [go_sem,seval,hdx]
theorem eqCallV_nil:Abs.Spec Tryz.prog 50 [] [.sl 4 [],.sl 4 []] [] (.bool true):=by
 refine sgo 26 2 [.tmp 4] mixed Tryz.func50 ?_;simp only [go_sem,seval];refine LoopK.walk (S:=Unit) 0 [0,1,12] [208] (fun i _=>[(13,.int .i64 i)]) (fun _ _=>[]) (fun _ _=>True) () trivial ?_ ?_ ?_
 ·simp only [go_sem,seval]<;>simp
 ·intro i _ hi;omega
 ·intro _ hdx _;simp only [go_sem,seval,hdx]
theorem eqBidV_nil:Abs.Spec Tryz.prog 51 [] [.sl 5 [],.sl 5 []] [] (.bool true):=by
 refine sgo 26 2 [.tmp 4] mixed Tryz.func51 ?_;simp only [go_sem,seval];refine LoopK.walk (S:=Unit) 0 [0,1,12] [208] (fun i _=>[(13,.int .i64 i)]) (fun _ _=>[]) (fun _ _=>True) () trivial ?_ ?_ ?_
 ·simp only [go_sem,seval]<;>simp
 ·intro i _ hi;omega
 ·intro _ hdx _;simp only [go_sem,seval,hdx]
theorem eqFSeat_nil:Abs.Spec Tryz.prog 120 [] [.sl 7 [],.sl 7 [],.fn 121 []] [] (.bool true):=by
 refine sgo 32 3 [.tmp 6] mixed Tryz.func120 ?_;simp only [go_sem,seval];refine LoopK.walk (S:=Unit) 0 [1,2,15,16] [272] (fun i _=>[(17,.int .i64 i)]) (fun _ _=>[]) (fun _ _=>True) () trivial ?_ ?_ ?_
 ·simp only [go_sem,seval]<;>simp
 ·intro i _ hi;omega
 ·intro _ hdx _;simp only [go_sem,seval,hdx]
theorem sameSeats_nil:Abs.Spec Tryz.prog 52 [] [.sl 7 [],.sl 7 []] [] (.bool true):=by
 refine sgo 8 2 [.tmp 4] mixed Tryz.func52 ?_;simp only [go_sem,seval];(with_reducible and_intros)<;>first|exact .dq|omega|skip
 refine CallN.pure eqFSeat_nil ?_;simp only [go_sem,seval]
def zeroS (n:Int):StateV:=⟨n,0,0,⟨[],[],[]⟩,⟨0,[],[]⟩,⟨0,[]⟩,[],[],[],[]⟩
theorem zeroS_rng {n:Int} (h:I64 n):(zeroS n).rng:=by
 have h0:I64 0:=⟨by decide,by decide⟩
 refine ⟨h,h0,h0,?_,?_,?_,h0,?_,?_,h0,?_,?_,?_,?_,?_⟩<;>simp [zeroS]
theorem zeroS_mid (n:Int):(zeroS n).mid:=by
 refine ⟨⟨⟨?_,?_,?_⟩,⟨?_,?_⟩,?_,?_,?_,?_,?_,?_⟩,?_,?_,?_⟩<;>simp [zeroS]
theorem zero_holds:holdsB (zeroS 0)=true:=by kernel_rfl
theorem zero_diff:diffL (parts (zeroS 0) (zeroS 1))=[⟨#[67,108,111,99,107]⟩]:=by kernel_rfl
theorem wakes27_spec:Abs.Spec Tryz.prog 13 [] [] [] (.bool true):=by
 have h1:=auditDiff_of (zeroS 0) (zeroS 1) eqMemberV_nil eqInstV_nil eqAssetV_nil eqTradeV_nil eqPosV_nil eqBalV_nil eqPlg_nil eqCallV_nil eqBidV_nil sameSeats_nil;have h2:=auditHolds_spec (zeroS 0) (zeroS_mid 0) (by simp [zeroS]) (by simp [zeroS]) (zeroS_rng ⟨by decide,by decide⟩);rw [zero_diff] at h1;rw [zero_holds] at h2;simp only [StateV.cells,zeroS,List.map_nil] at h1 h2
 replace h1:=Spec.le_args h1 (ds':=[.agg [.int .i64 0,.int .i64 0,.int .i64 0,.nil,.nil,.nil,.int .i64 0,.nil,.nil,.int .i64 0,.nil,.nil,.nil,.nil,.nil],.agg [.int .i64 1,.int .i64 0,.int .i64 0,.nil,.nil,.nil,.int .i64 0,.nil,.nil,.int .i64 0,.nil,.nil,.nil,.nil,.nil]]) (by simp [leDL,leD,pl])
 replace h2:=Spec.le_args h2 (ds':=[.agg [.int .i64 0,.int .i64 0,.int .i64 0,.nil,.nil,.nil,.int .i64 0,.nil,.nil,.int .i64 0,.nil,.nil,.nil,.nil,.nil]]) (by simp [leDL,leD,pl])
 refine sgo 19 0 [.tmp 0] mixed Tryz.func13 ?_;simp only [go_sem,seval];refine CallN.gen [] [] false (by simp) ?_;simp only [go_sem,seval];refine CallG.intro h1 ?_;simp only [go_sem,seval,txts,List.map_cons,List.map_nil,List.length_cons,List.length_nil];refine CallN.pure h2 ?_;simp only [go_sem,seval]
@[reducible] def intc (x:Int):List D:=[.int .i64 x]
theorem frz10 (n0 n1 n2 n3 n4:Int) (r0 r1 r2 r3 r4 r5 r6 r7 r8 r9:List (List D)):(frzEL [0,1,2,3,4,5,6,7,8,9] (mkE [(0,.agg [.int .i64 n0,.int .i64 n1,.int .i64 n2,.ref 0,.ref 1,.ref 2,.int .i64 n3,.ref 3,.ref 4,.int .i64 n4,.ref 5,.ref 6,.ref 7,.ref 8,.ref 9])] (osL 0 [.own 3 r0,.own 12 r1,.own 4 r2,.own 7 r3,.own 4 r4,.own 4 r5,.own 3 r6,.own 4 r7,.own 5 r8,.own 7 r9]))).t 0=.agg [.int .i64 n0,.int .i64 n1,.int .i64 n2,.sl 3 r0,.sl 12 r1,.sl 4 r2,.int .i64 n3,.sl 7 r3,.sl 4 r4,.int .i64 n4,.sl 4 r5,.sl 3 r6,.sl 4 r7,.sl 5 r8,.sl 7 r9]:=by
 kernel_rfl
theorem frz10o (d:D) (r0 r1 r2 r3 r4 r5 r6 r7 r8 r9:List (List D)) (r:Nat):(frzEL [0,1,2,3,4,5,6,7,8,9] (mkE [(0,d)] (osL 0 [.own 3 r0,.own 12 r1,.own 4 r2,.own 7 r3,.own 4 r4,.own 4 r5,.own 3 r6,.own 4 r7,.own 5 r8,.own 7 r9]))).o r=[].getD r .undef:=by
 rcases r with _ | _ | _ | _ | _ | _ | _ | _ | _ | _ | r<;>kernel_rfl
theorem twinState_frozen (s:StateV) (hs:s.small):Abs.Spec Tryz.prog 15 [] [.agg s.cells] [] (.agg s.cells):=by
 have h:=twinState_spec s hs;simp only [stOwn,stRefs] at h;simp only [StateV.cells];simp only [StateV.cells] at h;exact Spec.frozen h [0,1,2,3,4,5,6,7,8,9] (frz10 ..) (fun r=>frz10o ..)
end Go.Proofs.YtgnhdbdipfncgaaGreat
