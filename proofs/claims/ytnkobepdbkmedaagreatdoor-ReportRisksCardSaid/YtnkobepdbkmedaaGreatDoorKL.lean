/- The reference's engine: Do, and what follows. No theorem of a claim. -/
import Derived.Test.YtnkobepdbkmedaaGreatDoorKJ
import Derived.Test.YtnkobepdbkmedaaGreatDoorKK
set_option linter.unusedSimpArgs false
set_option linter.unusedVariables false
set_option maxHeartbeats 4000000
set_option maxRecDepth 16000
namespace Go.Proofs.YtnkobepdbkmedaaGreatDoor
open Go.Abs
theorem SU (s:af) (c:aZ) (h:s.good) (hk:1<=c.kind/\c.kind<=22):Abs.Spec Tryz.prog 51 [] [.agg s.cells,.agg c.cells] [] (.bI [.agg (aV s c).1.cells,.agg (aV s c).2.cells]):=by
 rcases (by omega:c.kind=1\/c.kind=2\/c.kind=3\/c.kind=4\/c.kind=5\/c.kind=6\/c.kind=7\/c.kind=8\/c.kind=9\/c.kind=10\/c.kind=11\/c.kind=12\/c.kind=13\/c.kind=14\/c.kind=15\/c.kind=16\/c.kind=17\/c.kind=18\/c.kind=19\/c.kind=20\/c.kind=21\/c.kind=22) with e | e | e | e | e | e | e | e | e | e | e | e | e | e | e | e | e | e | e | e | e | e
 ·exact ZU s c h e
 ·exact aaM s c h e
 ·exact aap s c h e
 ·exact YS s c h e
 ·exact YO s c h e
 ·exact Y9 s c h e
 ·exact YX s c h e
 ·exact Y6 s c h e
 ·exact ZH s c h e
 ·exact VQ s c h e
 ·exact Wp s c h e
 ·exact WM s c h e
 ·exact V6 s c h e
 ·exact VP s c h e
 ·exact WA s c h e
 ·exact VW s c h e
 ·exact Vx s c h e
 ·exact W1 s c h e
 ·exact Wg s c h e
 ·exact VU s c h e
 ·exact WO s c h e
 ·exact V9 s c h e
theorem Rg (s:af) (c:aZ) (h:(aV s c).2.code≠0):aV s c=(s,.err (aV s c).2.code):=by
 unfold aV bF at h |-;split
 ·rename_i hz;rw [if_pos hz] at h;exact absurd rfl h
 ·rfl
theorem HZ (s:af) (c:aZ) (r:bq) (i:Nat):(oN s c r i).length<=1:=by
 unfold oN;split
 ·simp
 ·split<;>simp
theorem MM (s:af) (c:aZ) (h:s.gF) (hk:(mq s c).2=false):Abs.Spec Tryz.prog 22 [] [.agg s.cells,.agg c.cells] [.own 7 ((wz s c).1.aN.map ck.cells)]
  (.bI [.agg [.int .i64 (wz s c).1.now,.int .i64 (wz s c).1.day,.int .i64 (wz s c).1.phase,.sl 3 ((wz s c).1.aj.ms.map ak.cells),.sl 12 ((wz s c).1.aj.ns.map ay.cells),.sl 4 ((wz s c).1.aj.xs.map au.cells),.int .i64 (wz s c).1.book.next,.sl 7 ((wz s c).1.book.ts.map aL.cells),.sl 4 ((wz s c).1.book.qs.map aB.cells),
    .int .i64 (wz s c).1.aW.last,.sl 4 ((wz s c).1.aW.bs.map bC.cells),.sl 3 (pl (wz s c).1.ps),.sl 4 ((wz s c).1.calls.map aA.cells),.sl 5 ((wz s c).1.bp.map bM.cells),.ref 0],.agg (wz s c).2.cells]):=by
 have hg:=h.good;have hf:=Nb h.right hk;have hsl:=h.right.lens.aN;have c1:=sS s c hg.small;have c2:=SU s c hg (NA hf.1).1;have c3:=aR s hg.small;have c4:=fun n=>vc s n (by omega)
 have c5:=l8 _ (Ex (s:=s) (c:=c) h.right.lens);have hse:=fun n=>E2 n s.aN 0 (by omega)
 have herr:=Rg s c;have hD:wz s c=({ (aV s c).1 with aN:=pq (oN s c (aV s c).2) 8 },(aV s c).2):=by unfold wz;rw [hk];rfl
 rw [hD];obtain ⟨K,hK⟩:=aH ((mq s c).1);rw [hk,<- hK] at c1;obtain ⟨X,hX⟩:=aH (aV s c);rw [<- hX] at c2 c5 herr |-;obtain ⟨T,R⟩:=X;dsimp only at c2 c5 herr |-;clear hk hK hX hD hf;simp only [af.cells,aZ.cells,bq.cells] at c1 c2 c3 c4 c5 |-;refine bu 69 2 [.cell 4 42,.cell 5 91] mixed Tryz.func22 ?_;simp only [go_sem,seval];(with_reducible and_intros)<;>first|exact .dq|omega|skip
 refine aa.pure c1 ?_;simp only [go_sem,seval];(with_reducible and_intros)<;>first|exact .dq|omega|skip
 refine aa.pure c2 ?_
 by_cases b:R.code=0
 case pos =>
  have d:(R.code==0)=true:=by simpa using b
  simp only [go_sem,seval,bne,d];(with_reducible and_intros)<;>first|exact .dq|omega|skip
  refine aC.walk (S:=Unit) 8 [2,3,4,5,6,8] [48,64,80,96,144] (fun i _=>[(10,.int .i64 ((i:Int)+1)),(9,.ref 1040)]) (fun i _=>[(112,.box R.cells),(1040,.own 7 ((pq (oN s c R) i).map ck.cells))]) (fun _ _=>True) () trivial ?_ ?_ ?_
  ·simp only [go_sem,seval,bq.cells,kW]<;>simp
  ·intro i _ hi _ _ _;have hd:decide ((i:Int)+1<=8)=true:=decide_eq_true (by omega);have hw:IntKind.wrap .i64 ((i:Int)+1+1)=((i+1:Nat):Int)+1:=by rw [bn (by omega) (by omega)];omega
   have hs:=jo (oN s c R) i;have hl:=lF (HZ s c R) i;obtain ⟨L,hL⟩:=aH (pq (oN s c R) i);obtain ⟨k,hk⟩:=aH ((i:Int)+1);have c4k:=c4 k;have hsk:=hse k;rw [<- hL] at hs hl |-;simp only [oN,<- hk] at hs;rw [<- hk] at hd hw |-;obtain ⟨v,hv⟩:=aH (gL k s.aN 0);rw [<- hv] at hs c4k hsk;clear c4 hse hL hv c1 c2 c3;simp only [bq.cells];simp only [go_sem,seval,hd];(with_reducible and_intros)<;>first|exact .dq|omega|skip
   refine aa.pure c4k ?_
   by_cases q:k=c.client
   ·have d2:(k==c.client)=true:=by simpa using q
    rw [if_pos q] at hs;simp only [go_sem,seval,d2];(with_reducible and_intros)<;>first|exact .dq|omega|skip
    refine aa.pure c5 ?_;simp only [go_sem,seval,hw,aJ];(with_reducible and_intros)<;>first|exact .dq|omega|skip
    refine ah.step () hi trivial ?_;simp only [go_sem,seval,hs]<;>simp
   have d2:(k==c.client)=false:=by simpa using q
   rw [if_neg q] at hs
   by_cases q3:0<=v
   ·obtain ⟨j,hj,e,_⟩:=hsk q3;have hvj:v=(j:Int):=by omega
    subst hvj;have d3:decide (0<=(j:Int))=true:=by simp
    rw [if_pos q3,show lP s (j:Int)=s.aN[j] from by simp [lP,hj]] at hs;have hm:=aG (c:=ck.cells) s.aN hj;have hlj:(j:Int) < (s.aN.length:Int):=by omega
    obtain ⟨x,hx⟩:=aH (s.aN[j]);rw [<- hx] at hm hs;simp only [ck.cells] at hm;simp only [go_sem,seval,d2,d3,aJ,hm,Int.toNat_natCast];(with_reducible and_intros)<;>first|exact .dq|omega|skip
    simp only [go_sem,seval,hw,aJ];(with_reducible and_intros)<;>first|exact .dq|omega|skip
    refine ah.step () hi trivial ?_;simp only [go_sem,seval,hs]<;>simp
   ·have d3:decide (0<=v)=false:=by simpa using q3
    rw [if_neg q3,List.append_nil] at hs;simp only [go_sem,seval,d2,d3,hw];(with_reducible and_intros)<;>first|exact .dq|omega|skip
    refine ah.step () hi trivial ?_;simp only [go_sem,seval,hs]<;>simp
  ·intro _ _ _;have hdx:decide (((8:Nat):Int)+1<=8)=false:=by decide
   simp only [bq.cells];simp only [go_sem,seval,hdx];(with_reducible and_intros)<;>first|exact .dq|omega|skip
 have d:(R.code==0)=false:=by simpa using b
 have hTR:=herr b;simp only [Prod.mk.injEq] at hTR;obtain ⟨rfl,hR⟩:=hTR;simp only [go_sem,seval,bne,d];(with_reducible and_intros)<;>first|exact .dq|omega|skip
 refine aa.pure c3 ?_;simp only [go_sem,seval];(with_reducible and_intros)<;>first|exact .dq|omega|skip
 refine aC.walk (S:=Unit) 8 [2,3,4,5,6,8] [48,64,80,96,144] (fun i _=>[(10,.int .i64 ((i:Int)+1)),(9,.ref 1040)]) (fun i _=>[(112,.box R.cells),(1040,.own 7 ((pq (oN T c R) i).map ck.cells))]) (fun _ _=>True) () trivial ?_ ?_ ?_
 ·have r1:R.no=0:=by rw [hR];rfl
  have r2:R.cm=0:=by rw [hR];rfl
  have r3:R.TQ=[]:=by rw [hR];rfl
  have r4:R.falls=[]:=by rw [hR];rfl
  simp only [go_sem,seval,bq.cells,kW,r1,r2,r3,r4,List.map_nil]<;>simp
 ·intro i _ hi _ _ _;have hd:decide ((i:Int)+1<=8)=true:=decide_eq_true (by omega);have hw:IntKind.wrap .i64 ((i:Int)+1+1)=((i+1:Nat):Int)+1:=by rw [bn (by omega) (by omega)];omega
  have hs:=jo (oN T c R) i;have hl:=lF (HZ T c R) i;obtain ⟨L,hL⟩:=aH (pq (oN T c R) i);obtain ⟨k,hk⟩:=aH ((i:Int)+1);have c4k:=c4 k;have hsk:=hse k;rw [<- hL] at hs hl |-;simp only [oN,<- hk] at hs;rw [<- hk] at hd hw |-;obtain ⟨v,hv⟩:=aH (gL k T.aN 0);rw [<- hv] at hs c4k hsk;clear c4 hse hL hv c1 c2 c3;simp only [bq.cells];simp only [go_sem,seval,hd];(with_reducible and_intros)<;>first|exact .dq|omega|skip
  refine aa.pure c4k ?_
  by_cases q:k=c.client
  ·have d2:(k==c.client)=true:=by simpa using q
   rw [if_pos q] at hs;simp only [go_sem,seval,d2];(with_reducible and_intros)<;>first|exact .dq|omega|skip
   refine aa.pure c5 ?_;simp only [go_sem,seval,hw,aJ];(with_reducible and_intros)<;>first|exact .dq|omega|skip
   refine ah.step () hi trivial ?_;simp only [go_sem,seval,hs]<;>simp
  have d2:(k==c.client)=false:=by simpa using q
  rw [if_neg q] at hs
  by_cases q3:0<=v
  ·obtain ⟨j,hj,e,_⟩:=hsk q3;have hvj:v=(j:Int):=by omega
   subst hvj;have d3:decide (0<=(j:Int))=true:=by simp
   rw [if_pos q3,show lP T (j:Int)=T.aN[j] from by simp [lP,hj]] at hs;have hm:=aG (c:=ck.cells) T.aN hj;have hlj:(j:Int) < (T.aN.length:Int):=by omega
   obtain ⟨x,hx⟩:=aH (T.aN[j]);rw [<- hx] at hm hs;simp only [ck.cells] at hm;simp only [go_sem,seval,d2,d3,aJ,hm,Int.toNat_natCast];(with_reducible and_intros)<;>first|exact .dq|omega|skip
   simp only [go_sem,seval,hw,aJ];(with_reducible and_intros)<;>first|exact .dq|omega|skip
   refine ah.step () hi trivial ?_;simp only [go_sem,seval,hs]<;>simp
  ·have d3:decide (0<=v)=false:=by simpa using q3
   rw [if_neg q3,List.append_nil] at hs;simp only [go_sem,seval,d2,d3,hw];(with_reducible and_intros)<;>first|exact .dq|omega|skip
   refine ah.step () hi trivial ?_;simp only [go_sem,seval,hs]<;>simp
 ·intro _ _ _;have hdx:decide (((8:Nat):Int)+1<=8)=false:=by decide
  simp only [bq.cells];simp only [go_sem,seval,hdx];(with_reducible and_intros)<;>first|exact .dq|omega|skip
theorem JI (s:af) (c:aZ) (h:s.gF):Abs.Spec Tryz.prog 22 [] [.agg s.cells,.agg c.cells] [] (.bI [.agg (wz s c).1.cells,.agg (wz s c).2.cells]):=by
 cases hk:(mq s c).2
 ·refine Spec.frozen (MM s c h hk) [0] rfl ?_;intro r;rcases r with _ | r<;>rfl
 ·have c1:=sS s c h.good.small;have hD:wz s c=(s,(mq s c).1):=by unfold wz;rw [hk];rfl
  rw [hD];rw [hk] at c1;obtain ⟨K,hK⟩:=aH ((mq s c).1);rw [<- hK] at c1 |-;simp only [af.cells,aZ.cells,bq.cells] at c1 |-;refine bu 69 2 [.cell 4 42,.cell 5 91] mixed Tryz.func22 ?_;simp only [go_sem,seval];(with_reducible and_intros)<;>first|exact .dq|omega|skip
  refine aa.pure c1 ?_;simp only [go_sem,seval];(with_reducible and_intros)<;>first|exact .dq|omega|skip
def jS (c:aZ):Int:=c.client%8+1
def KV (q:List Int) (c:aZ):aZ:={ c with client:=jS c,seq:=q.getD (jS c).toNat 0+1 }
def LP (x:af × List Int) (c:aZ):af × List Int:=
 ((wz x.1 (KV x.2 c)).1,if (wz x.1 (KV x.2 c)).2.code=6\/(wz x.1 (KV x.2 c)).2.code=21 then x.2 else x.2.set (jS c).toNat (x.2.getD (jS c).toNat 0+1))
def GG:List aZ->af × List Int->af × List Int
 | [],x=>x
 | c :: r,x=>GG r (LP x c)
def Dm (l:List aZ):af:=(GG (l.take 200) (af.zero,List.replicate 9 0)).1
structure CK (x:af × List Int) (i:Nat):Prop where
 gF:x.1.gF
 XS:dy x.1
 len:x.2.length=9
 num:∀ v∈x.2,0<=v/\v<=i
theorem E0 (c:aZ):1<=jS c/\jS c<=8:=by unfold jS;omega
theorem NQ {q:List Int} {k:Nat} (h:k < q.length):q.getD k 0∈q:=by
 rw [List.getD_eq_getElem?_getD,List.getElem?_eq_getElem h];exact List.getElem_mem h
theorem MY {x:af × List Int} {i:Nat} (c:aZ) (h:CK x i):CK (LP x c) (i+1):=by
 have hc:=E0 c;have hl:=h.len;refine ⟨UH h.gF,Rk h.gF.right h.XS,?_,?_⟩
 ·unfold LP;dsimp only;split
  ·exact hl
  ·rw [List.length_set];exact hl
 ·unfold LP;dsimp only;split
  ·intro v hv;have:=h.num v hv;omega
  ·intro v hv;rcases List.mem_or_eq_of_mem_set hv with hv | rfl
   ·have:=h.num v hv;omega
   ·have:=h.num _ (NQ (q:=x.2) (k:=(jS c).toNat) (by omega));omega
theorem Yr:CK (af.zero,List.replicate 9 0) 0:=⟨RF,fun c _=>rfl,by simp,fun v hv=>by
 have:=List.eq_of_mem_replicate hv
 omega⟩
theorem LW:∀ (l:List aZ) (x:af × List Int) (i:Nat),CK x i->CK (GG l x) (i+l.length)
 | [],_,_,h=>h
 | c :: r,x,i,h=>by
  have:=LW r _ _ (MY c h);simp only [GG,List.length_cons]
  rwa [show i+(r.length+1)=i+1+r.length by omega]
theorem zC (l:List aZ):(Dm l).gF/\dy (Dm l):=by
 have:=LW (l.take 200) _ 0 Yr;exact ⟨this.gF,this.XS⟩
def ql (q:List Int):List D:=q.map fun x=>.int .i64 x
theorem Tv (q:List Int):(ql q).length=q.length:=by simp [ql]
theorem J3 (q:List Int):∀ d∈ql q,oP d=true:=by simp [ql,oP]
theorem aeg {q:List Int} {k:Nat} (h:k < q.length):((ql q).drop k).headD .undef=.int .i64 (q.getD k 0):=by
 rw [List.drop_eq_getElem_cons (by rw [Tv];exact h)];simp [ql,h]
theorem Zy {q:List Int} {k:Nat} (h:k < q.length) (v:Int):(ql q).take k++.int .i64 v :: (ql q).drop (k+1)=ql (q.set k v):=by
 unfold ql;rw [<- List.map_take,<- List.map_drop,List.set_eq_take_append_cons_drop,if_pos h];simp
theorem Sn (n:Int):IntKind.wrap .i64 (1+IntKind.wrap .i64 ((IntKind.wrap .u64 n).tmod 8))=n%8+1:=by
 have h:IntKind.wrap .u64 n=n%18446744073709551616:=by rw [IntKind.wrap_u64]
 rw [h,Int.tmod_eq_emod_of_nonneg (by omega),bn (x:=n%18446744073709551616%8) (by omega) (by omega),bn (by omega) (by omega)];omega
theorem sP (l:List aZ) (hlen:l.length<=1000):Abs.Spec Tryz.prog 7 [] [.sl 17 (l.map aZ.cells)] [] (.agg (Dm l).cells):=by
 obtain ⟨R,hR⟩:=aH (GG (l.take 200) (af.zero,List.replicate 9 0));have hgr:Dm l=R.1:=by rw [hR];rfl
 rw [hgr];clear hgr;obtain ⟨L,hL⟩:=aH (l.take 200);rw [<- hL] at hR;obtain ⟨n,hn⟩:=aH (L.length)
 have hn2:n<=l.length/\n<=200/\(n=l.length\/n=200):=by
  rw [hn,hL,List.length_take];omega
 have hat:∀ i (h1:i < L.length) (h2:i < l.length),L[i]=l[i]:=fun i h1 h2=>by
  subst hL;simp
 clear hL;refine bu 59 1 [.cell 2 42] mixed Tryz.func7 ?_;simp only [go_sem,seval,aJ];(with_reducible and_intros)<;>first|exact .dq|omega|skip
 refine aC.walk (S:=af × List Int) n [0,2,3,4] [48] (fun i _=>[(5,.int .i64 i)]) (fun i x=>[(64,.box x.1.cells),(80,.box (ql x.2))]) (fun i x=>GG (L.drop i) x=R/\CK x i) (af.zero,List.replicate 9 0) ⟨hR.symm,Yr⟩ ?_ ?_ ?_
 ·have hz:ql (List.replicate 9 0)=[.int .i64 0,.int .i64 0,.int .i64 0,.int .i64 0,.int .i64 0,.int .i64 0,.int .i64 0,.int .i64 0,.int .i64 0]:=rfl;simp only [go_sem,seval,af.cells,af.zero,hz,pl];exact fq (by simp [oP])
 ·intro i x hi hdi hwi hI;obtain ⟨hI,hx⟩:=hI;rw [dN (by omega:i < L.length),hat i (by omega) (by omega)] at hI;have hm:=aG (c:=aZ.cells) l (by omega:i < l.length);have hd1:decide ((i:Int) < (l.length:Int))=true:=decide_eq_true (by omega);have hd2:decide ((i:Int) < 200)=true:=decide_eq_true (by omega);have hli:(i:Int) < (l.length:Int):=by omega
  obtain ⟨c,hc⟩:=aH (l[i]);rw [<- hc] at hm hI;simp only [GG] at hI;have hnext:=MY c hx;obtain ⟨s,q⟩:=x;have hq9:q.length=9:=hx.len;have hcl:=E0 c;have hce:=Sn c.client;have hqn:=hx.num _ (NQ (q:=q) (k:=(jS c).toNat) (by omega));have hDo:=JI s (KV q c) hx.gF;have hs1:LP (s,q) c=((wz s (KV q c)).1,if (wz s (KV q c)).2.code=6\/(wz s (KV q c)).2.code=21 then q else q.set (jS c).toNat (q.getD (jS c).toNat 0+1)):=rfl;rw [hs1] at hI hnext;obtain ⟨Z,hZ⟩:=aH (wz s (KV q c));rw [<- hZ] at hDo hI hnext;clear hZ hs1;obtain ⟨T,P⟩:=Z;dsimp only at hDo hI hnext |-;simp only [KV] at hDo;obtain ⟨m,hm0⟩:=aH (jS c);have hce:IntKind.wrap .i64 (1+IntKind.wrap .i64 ((IntKind.wrap .u64 c.client).tmod 8))=m:=by rw [hm0];exact hce
  rw [<- hm0] at hDo hI hnext hcl hqn;have hld:=aeg (q:=q) (k:=m.toNat) (by omega);have hst:=Zy (q:=q) (k:=m.toNat) (by omega);have hql:=Tv q;obtain ⟨v,hv⟩:=aH (q.getD m.toNat 0);rw [<- hv] at hDo hI hnext hqn hld;have hw1:IntKind.wrap .i64 (v+1)=v+1:=bn (by omega) (by omega);have hm9:m < 9:=by omega
  clear hR hat hv hm0 hx;obtain ⟨B,hB⟩:=aH (ql q);rw [<- hB] at hld hst hql |-;clear hc;simp only [af.cells,aZ.cells,bq.cells] at hDo hm |-;simp only [go_sem,seval,aJ,hd1,hd2,hm,Int.toNat_natCast,hce,hld,hw1,hql,Nat.mul_one];(with_reducible and_intros)<;>first|exact .dq|omega|skip
  refine aa.pure hDo ?_
  by_cases k6:P.code=6
  ·have d6:(P.code==6)=true:=by simpa using k6
   rw [if_pos (.inl k6)] at hI hnext;simp only [go_sem,seval,bne,d6,hwi];(with_reducible and_intros)<;>first|exact .dq|omega|skip
   refine ah.step (T,q) hi ⟨hI,hnext⟩ ?_;simp only [go_sem,seval,af.cells,<- hB];exact fq (by rw [hB];exact J3 q)
  have d6:(P.code==6)=false:=by simpa using k6
  by_cases k21:P.code=21
  ·have d21:(P.code==21)=true:=by simpa using k21
   rw [if_pos (.inr k21)] at hI hnext;simp only [go_sem,seval,bne,d6,d21,hwi];(with_reducible and_intros)<;>first|exact .dq|omega|skip
   refine ah.step (T,q) hi ⟨hI,hnext⟩ ?_;simp only [go_sem,seval,af.cells,<- hB];exact fq (by rw [hB];exact J3 q)
  have d21:(P.code==21)=false:=by simpa using k21
  rw [if_neg (by omega)] at hI hnext;simp only [go_sem,seval,bne,d6,d21,hwi,hld,hw1,hql,Nat.mul_one];(with_reducible and_intros)<;>first|exact .dq|omega|skip
  refine ah.step (T,q.set m.toNat (v+1)) hi ⟨hI,hnext⟩ ?_;have hst2:List.take m.toNat B++[.int .i64 (v+1)]++List.drop (m.toNat+1) B=ql (q.set m.toNat (v+1)):=by rw [<- hst];simp
  simp only [go_sem,seval,af.cells,hst,hst2];exact fq (J3 _)
 ·intro x hdx hI;have hI:=hI.1;rw [hn,List.drop_length] at hI;have hI:x=R:=hI;subst hI;rcases hn2.2.2 with e | e
  ·have hd1:decide ((n:Int) < (l.length:Int))=false:=decide_eq_false (by omega);simp only [af.cells];simp only [go_sem,seval,aJ,hd1]
  ·have hd2:decide ((n:Int) < 200)=false:=decide_eq_false (by omega);simp only [af.cells];cases hd1:decide ((n:Int) < (l.length:Int))
   ·simp only [go_sem,seval,aJ,hd1]
   ·simp only [go_sem,seval,aJ,hd1,hd2]
theorem Bl (r:List D) (h:ke [.int .i64,.int .i64,.int .i64,.int .i64,.int .i64,.int .i64,.int .i64,.int .i64,.int .i64,.int .i64,.int .i64,.int .i64,.int .i64,.int .i64,.int .i64,.int .i64,.int .i64] r):∃ x:aZ,True/\r=x.cells:=by
 simp only [ke,Fit] at h;obtain ⟨_,_,rfl,⟨a0,rfl,r0⟩,_,_,rfl,⟨a1,rfl,r1⟩,_,_,rfl,⟨a2,rfl,r2⟩,_,_,rfl,⟨a3,rfl,r3⟩,_,_,rfl,⟨a4,rfl,r4⟩,_,_,rfl,⟨a5,rfl,r5⟩,_,_,rfl,⟨a6,rfl,r6⟩,_,_,rfl,⟨a7,rfl,r7⟩,_,_,rfl,⟨a8,rfl,r8⟩,_,_,rfl,⟨a9,rfl,r9⟩,_,_,rfl,⟨a10,rfl,r10⟩,_,_,rfl,⟨a11,rfl,r11⟩,_,_,rfl,⟨a12,rfl,r12⟩,_,_,rfl,⟨a13,rfl,r13⟩,_,_,rfl,⟨a14,rfl,r14⟩,_,_,rfl,⟨a15,rfl,r15⟩,_,_,rfl,⟨a16,rfl,r16⟩,rfl⟩:=h;exact ⟨⟨a0,a1,a2,a3,a4,a5,a6,a7,a8,a9,a10,a11,a12,a13,a14,a15,a16⟩,trivial,rfl⟩
end Go.Proofs.YtnkobepdbkmedaaGreatDoor
