/- The reference's engine: Do, and what follows. No theorem of a claim. -/
import Derived.Test.YtacacccbcndjoaaGreatKJ
import Derived.Test.YtacacccbcndjoaaGreatKK
set_option linter.unusedSimpArgs false
set_option linter.unusedVariables false
set_option maxHeartbeats 4000000
set_option maxRecDepth 16000
namespace Go.Proofs.YtacacccbcndjoaaGreat
open Go.Abs
theorem N7 (s:af) (c:aY) (h:s.good) (hk:1<=c.kind/\c.kind<=22):Abs.Spec Tryz.prog 26 [] [.agg s.cells,.agg c.cells] [] (.bD [.agg (aQ s c).1.cells,.agg (aQ s c).2.cells]):=by
 rcases (by omega:c.kind=1\/c.kind=2\/c.kind=3\/c.kind=4\/c.kind=5\/c.kind=6\/c.kind=7\/c.kind=8\/c.kind=9\/c.kind=10\/c.kind=11\/c.kind=12\/c.kind=13\/c.kind=14\/c.kind=15\/c.kind=16\/c.kind=17\/c.kind=18\/c.kind=19\/c.kind=20\/c.kind=21\/c.kind=22) with e | e | e | e | e | e | e | e | e | e | e | e | e | e | e | e | e | e | e | e | e | e
 ·exact VZ s c h e
 ·exact Wo s c h e
 ·exact XM s c h e
 ·exact WQ s c h e
 ·exact WM s c h e
 ·exact Wh s c h e
 ·exact Xy s c h e
 ·exact WD s c h e
 ·exact Wj s c h e
 ·exact Tf s c h e
 ·exact Si s c h e
 ·exact TC s c h e
 ·exact TI s c h e
 ·exact Se s c h e
 ·exact Sd s c h e
 ·exact Tm s c h e
 ·exact Sj s c h e
 ·exact SO s c h e
 ·exact SX s c h e
 ·exact Sf s c h e
 ·exact TV s c h e
 ·exact Sz s c h e
theorem OZ (s:af) (c:aY) (h:(aQ s c).2.code≠0):aQ s c=(s,.err (aQ s c).2.code):=by
 unfold aQ br at h |-;split
 ·rename_i hz;rw [if_pos hz] at h;exact absurd rfl h
 ·rfl
theorem FA (s:af) (c:aY) (r:aW) (i:Nat):(oa s c r i).length<=1:=by
 unfold oa;split
 ·simp
 ·split<;>simp
theorem JX (s:af) (c:aY) (h:s.fY) (hk:(lD s c).2=false):Abs.Spec Tryz.prog 9 [] [.agg s.cells,.agg c.cells] [.own 7 ((tv s c).1.aM.map bu.cells)]
  (.bD [.agg [.int .i64 (tv s c).1.now,.int .i64 (tv s c).1.day,.int .i64 (tv s c).1.phase,.sl 3 ((tv s c).1.aj.ms.map ak.cells),.sl 12 ((tv s c).1.aj.ns.map ay.cells),.sl 4 ((tv s c).1.aj.xs.map av.cells),.int .i64 (tv s c).1.book.next,.sl 7 ((tv s c).1.book.ts.map aL.cells),.sl 4 ((tv s c).1.book.qs.map aA.cells),
    .int .i64 (tv s c).1.bE.last,.sl 4 ((tv s c).1.bE.bs.map bJ.cells),.sl 3 (pl (tv s c).1.ps),.sl 4 ((tv s c).1.calls.map au.cells),.sl 5 ((tv s c).1.aT.map bp.cells),.ref 0],.agg (tv s c).2.cells]):=by
 have hg:=h.good;have hf:=Kb h.right hk;have hsl:=h.right.lens.aM;have c1:=rM s c hg.small;have c2:=N7 s c hg (Jw hf.1).1;have c3:=aP s hg.small;have c4:=fun n=>tA s n (by omega)
 have c5:=lE _ (B1 (s:=s) (c:=c) h.right.lens);have hse:=fun n=>Bt n s.aM 0 (by omega)
 have herr:=OZ s c;have hD:tv s c=({ (aQ s c).1 with aM:=oq (oa s c (aQ s c).2) 8 },(aQ s c).2):=by unfold tv;rw [hk];rfl
 rw [hD];obtain ⟨K,hK⟩:=aO ((lD s c).1);rw [hk,<- hK] at c1;obtain ⟨X,hX⟩:=aO (aQ s c);rw [<- hX] at c2 c5 herr |-;obtain ⟨T,R⟩:=X;dsimp only at c2 c5 herr |-;clear hk hK hX hD hf;simp only [af.cells,aY.cells,aW.cells] at c1 c2 c3 c4 c5 |-;refine aU 69 2 [.cell 4 42,.cell 5 66] mixed Tryz.func9 ?_;simp only [go_sem,seval];(with_reducible and_intros)<;>first|exact .dq|omega|skip
 refine aa.pure c1 ?_;simp only [go_sem,seval];(with_reducible and_intros)<;>first|exact .dq|omega|skip
 refine aa.pure c2 ?_
 by_cases b:R.code=0
 case pos =>
  have d:(R.code==0)=true:=by simpa using b
  simp only [go_sem,seval,bne,d];(with_reducible and_intros)<;>first|exact .dq|omega|skip
  refine aB.walk (S:=Unit) 8 [2,3,4,5,6,8] [48,64,80,96,144] (fun i _=>[(10,.int .i64 ((i:Int)+1)),(9,.ref 1040)]) (fun i _=>[(112,.box R.cells),(1040,.own 7 ((oq (oa s c R) i).map bu.cells))]) (fun _ _=>True) () trivial ?_ ?_ ?_
  ·simp only [go_sem,seval,aW.cells,kn]<;>simp
  ·intro i _ hi _ _ _;have hd:decide ((i:Int)+1<=8)=true:=decide_eq_true (by omega);have hw:IntKind.wrap .i64 ((i:Int)+1+1)=((i+1:Nat):Int)+1:=by rw [bz (by omega) (by omega)];omega
   have hs:=iZ (oa s c R) i;have hl:=kE (FA s c R) i;obtain ⟨L,hL⟩:=aO (oq (oa s c R) i);obtain ⟨k,hk⟩:=aO ((i:Int)+1);have c4k:=c4 k;have hsk:=hse k;rw [<- hL] at hs hl |-;simp only [oa,<- hk] at hs;rw [<- hk] at hd hw |-;obtain ⟨v,hv⟩:=aO (gr k s.aM 0);rw [<- hv] at hs c4k hsk;clear c4 hse hL hv c1 c2 c3;simp only [aW.cells];simp only [go_sem,seval,hd];(with_reducible and_intros)<;>first|exact .dq|omega|skip
   refine aa.pure c4k ?_
   by_cases q:k=c.client
   ·have d2:(k==c.client)=true:=by simpa using q
    rw [if_pos q] at hs;simp only [go_sem,seval,d2];(with_reducible and_intros)<;>first|exact .dq|omega|skip
    refine aa.pure c5 ?_;simp only [go_sem,seval,hw,aI];(with_reducible and_intros)<;>first|exact .dq|omega|skip
    refine ah.step () hi trivial ?_;simp only [go_sem,seval,hs]<;>simp
   have d2:(k==c.client)=false:=by simpa using q
   rw [if_neg q] at hs
   by_cases q3:0<=v
   ·obtain ⟨j,hj,e,_⟩:=hsk q3;have hvj:v=(j:Int):=by omega
    subst hvj;have d3:decide (0<=(j:Int))=true:=by simp
    rw [if_pos q3,show kK s (j:Int)=s.aM[j] from by simp [kK,hj]] at hs;have hm:=aD (c:=bu.cells) s.aM hj;have hlj:(j:Int) < (s.aM.length:Int):=by omega
    obtain ⟨x,hx⟩:=aO (s.aM[j]);rw [<- hx] at hm hs;simp only [bu.cells] at hm;simp only [go_sem,seval,d2,d3,aI,hm,Int.toNat_natCast];(with_reducible and_intros)<;>first|exact .dq|omega|skip
    simp only [go_sem,seval,hw,aI];(with_reducible and_intros)<;>first|exact .dq|omega|skip
    refine ah.step () hi trivial ?_;simp only [go_sem,seval,hs]<;>simp
   ·have d3:decide (0<=v)=false:=by simpa using q3
    rw [if_neg q3,List.append_nil] at hs;simp only [go_sem,seval,d2,d3,hw];(with_reducible and_intros)<;>first|exact .dq|omega|skip
    refine ah.step () hi trivial ?_;simp only [go_sem,seval,hs]<;>simp
  ·intro _ _ _;have hdx:decide (((8:Nat):Int)+1<=8)=false:=by decide
   simp only [aW.cells];simp only [go_sem,seval,hdx];(with_reducible and_intros)<;>first|exact .dq|omega|skip
 have d:(R.code==0)=false:=by simpa using b
 have hTR:=herr b;simp only [Prod.mk.injEq] at hTR;obtain ⟨rfl,hR⟩:=hTR;simp only [go_sem,seval,bne,d];(with_reducible and_intros)<;>first|exact .dq|omega|skip
 refine aa.pure c3 ?_;simp only [go_sem,seval];(with_reducible and_intros)<;>first|exact .dq|omega|skip
 refine aB.walk (S:=Unit) 8 [2,3,4,5,6,8] [48,64,80,96,144] (fun i _=>[(10,.int .i64 ((i:Int)+1)),(9,.ref 1040)]) (fun i _=>[(112,.box R.cells),(1040,.own 7 ((oq (oa T c R) i).map bu.cells))]) (fun _ _=>True) () trivial ?_ ?_ ?_
 ·have r1:R.no=0:=by rw [hR];rfl
  have r2:R.bX=0:=by rw [hR];rfl
  have r3:R.Aa=[]:=by rw [hR];rfl
  have r4:R.falls=[]:=by rw [hR];rfl
  simp only [go_sem,seval,aW.cells,kn,r1,r2,r3,r4,List.map_nil]<;>simp
 ·intro i _ hi _ _ _;have hd:decide ((i:Int)+1<=8)=true:=decide_eq_true (by omega);have hw:IntKind.wrap .i64 ((i:Int)+1+1)=((i+1:Nat):Int)+1:=by rw [bz (by omega) (by omega)];omega
  have hs:=iZ (oa T c R) i;have hl:=kE (FA T c R) i;obtain ⟨L,hL⟩:=aO (oq (oa T c R) i);obtain ⟨k,hk⟩:=aO ((i:Int)+1);have c4k:=c4 k;have hsk:=hse k;rw [<- hL] at hs hl |-;simp only [oa,<- hk] at hs;rw [<- hk] at hd hw |-;obtain ⟨v,hv⟩:=aO (gr k T.aM 0);rw [<- hv] at hs c4k hsk;clear c4 hse hL hv c1 c2 c3;simp only [aW.cells];simp only [go_sem,seval,hd];(with_reducible and_intros)<;>first|exact .dq|omega|skip
  refine aa.pure c4k ?_
  by_cases q:k=c.client
  ·have d2:(k==c.client)=true:=by simpa using q
   rw [if_pos q] at hs;simp only [go_sem,seval,d2];(with_reducible and_intros)<;>first|exact .dq|omega|skip
   refine aa.pure c5 ?_;simp only [go_sem,seval,hw,aI];(with_reducible and_intros)<;>first|exact .dq|omega|skip
   refine ah.step () hi trivial ?_;simp only [go_sem,seval,hs]<;>simp
  have d2:(k==c.client)=false:=by simpa using q
  rw [if_neg q] at hs
  by_cases q3:0<=v
  ·obtain ⟨j,hj,e,_⟩:=hsk q3;have hvj:v=(j:Int):=by omega
   subst hvj;have d3:decide (0<=(j:Int))=true:=by simp
   rw [if_pos q3,show kK T (j:Int)=T.aM[j] from by simp [kK,hj]] at hs;have hm:=aD (c:=bu.cells) T.aM hj;have hlj:(j:Int) < (T.aM.length:Int):=by omega
   obtain ⟨x,hx⟩:=aO (T.aM[j]);rw [<- hx] at hm hs;simp only [bu.cells] at hm;simp only [go_sem,seval,d2,d3,aI,hm,Int.toNat_natCast];(with_reducible and_intros)<;>first|exact .dq|omega|skip
   simp only [go_sem,seval,hw,aI];(with_reducible and_intros)<;>first|exact .dq|omega|skip
   refine ah.step () hi trivial ?_;simp only [go_sem,seval,hs]<;>simp
  ·have d3:decide (0<=v)=false:=by simpa using q3
   rw [if_neg q3,List.append_nil] at hs;simp only [go_sem,seval,d2,d3,hw];(with_reducible and_intros)<;>first|exact .dq|omega|skip
   refine ah.step () hi trivial ?_;simp only [go_sem,seval,hs]<;>simp
 ·intro _ _ _;have hdx:decide (((8:Nat):Int)+1<=8)=false:=by decide
  simp only [aW.cells];simp only [go_sem,seval,hdx];(with_reducible and_intros)<;>first|exact .dq|omega|skip
theorem Hf (s:af) (c:aY) (h:s.fY):Abs.Spec Tryz.prog 9 [] [.agg s.cells,.agg c.cells] [] (.bD [.agg (tv s c).1.cells,.agg (tv s c).2.cells]):=by
 cases hk:(lD s c).2
 ·refine Spec.frozen (JX s c h hk) [0] rfl ?_;intro r;rcases r with _ | r<;>rfl
 ·have c1:=rM s c h.good.small;have hD:tv s c=(s,(lD s c).1):=by unfold tv;rw [hk];rfl
  rw [hD];rw [hk] at c1;obtain ⟨K,hK⟩:=aO ((lD s c).1);rw [<- hK] at c1 |-;simp only [af.cells,aY.cells,aW.cells] at c1 |-;refine aU 69 2 [.cell 4 42,.cell 5 66] mixed Tryz.func9 ?_;simp only [go_sem,seval];(with_reducible and_intros)<;>first|exact .dq|omega|skip
  refine aa.pure c1 ?_;simp only [go_sem,seval];(with_reducible and_intros)<;>first|exact .dq|omega|skip
def jA (c:aY):Int:=c.client%8+1
def GP (q:List Int) (c:aY):aY:={ c with client:=jA c,seq:=q.getD (jA c).toNat 0+1 }
def J6 (x:af × List Int) (c:aY):af × List Int:=
 ((tv x.1 (GP x.2 c)).1,if (tv x.1 (GP x.2 c)).2.code=6\/(tv x.1 (GP x.2 c)).2.code=21 then x.2 else x.2.set (jA c).toNat (x.2.getD (jA c).toNat 0+1))
def wJ:List aY->af × List Int->af × List Int
 | [],x=>x
 | c :: r,x=>wJ r (J6 x c)
def FV (l:List aY):af:=(wJ (l.take 200) (af.zero,List.replicate 9 0)).1
structure vE (x:af × List Int) (i:Nat):Prop where
 fY:x.1.fY
 UQ:dh x.1
 len:x.2.length=9
 num:∀ v∈x.2,0<=v/\v<=i
theorem B8 (c:aY):1<=jA c/\jA c<=8:=by unfold jA;omega
theorem Jj {q:List Int} {k:Nat} (h:k < q.length):q.getD k 0∈q:=by
 rw [List.getD_eq_getElem?_getD,List.getElem?_eq_getElem h];exact List.getElem_mem h
theorem BW {x:af × List Int} {i:Nat} (c:aY) (h:vE x i):vE (J6 x c) (i+1):=by
 have hc:=B8 c;have hl:=h.len;refine ⟨Ra h.fY,OQ h.fY.right h.UQ,?_,?_⟩
 ·unfold J6;dsimp only;split
  ·exact hl
  ·rw [List.length_set];exact hl
 ·unfold J6;dsimp only;split
  ·intro v hv;have:=h.num v hv;omega
  ·intro v hv;rcases List.mem_or_eq_of_mem_set hv with hv | rfl
   ·have:=h.num v hv;omega
   ·have:=h.num _ (Jj (q:=x.2) (k:=(jA c).toNat) (by omega));omega
theorem QJ:vE (af.zero,List.replicate 9 0) 0:=⟨Ov,fun c _=>rfl,by simp,fun v hv=>by
 have:=List.eq_of_mem_replicate hv
 omega⟩
theorem JS:∀ (l:List aY) (x:af × List Int) (i:Nat),vE x i->vE (wJ l x) (i+l.length)
 | [],_,_,h=>h
 | c :: r,x,i,h=>by
  have:=JS r _ _ (BW c h);simp only [wJ,List.length_cons]
  rwa [show i+(r.length+1)=i+1+r.length by omega]
theorem RG (l:List aY):(FV l).fY/\dh (FV l):=by
 have:=JS (l.take 200) _ 0 QJ;exact ⟨this.fY,this.UQ⟩
def ql (q:List Int):List D:=q.map fun x=>.int .i64 x
theorem Rh (q:List Int):(ql q).length=q.length:=by simp [ql]
theorem Hv (q:List Int):∀ d∈ql q,sS d=true:=by simp [ql,sS]
theorem abo {q:List Int} {k:Nat} (h:k < q.length):((ql q).drop k).headD .undef=.int .i64 (q.getD k 0):=by
 rw [List.drop_eq_getElem_cons (by rw [Rh];exact h)];simp [ql,h]
theorem VL {q:List Int} {k:Nat} (h:k < q.length) (v:Int):(ql q).take k++.int .i64 v :: (ql q).drop (k+1)=ql (q.set k v):=by
 unfold ql;rw [<- List.map_take,<- List.map_drop,List.set_eq_take_append_cons_drop,if_pos h];simp
theorem Pr (n:Int):IntKind.wrap .i64 (1+IntKind.wrap .i64 ((IntKind.wrap .u64 n).tmod 8))=n%8+1:=by
 have h:IntKind.wrap .u64 n=n%18446744073709551616:=by rw [IntKind.wrap_u64]
 rw [h,Int.tmod_eq_emod_of_nonneg (by omega),bz (x:=n%18446744073709551616%8) (by omega) (by omega),bz (by omega) (by omega)];omega
theorem LV (l:List aY) (hlen:l.length<=1000):Abs.Spec Tryz.prog 4 [] [.sl 17 (l.map aY.cells)] [] (.agg (FV l).cells):=by
 obtain ⟨R,hR⟩:=aO (wJ (l.take 200) (af.zero,List.replicate 9 0));have hgr:FV l=R.1:=by rw [hR];rfl
 rw [hgr];clear hgr;obtain ⟨L,hL⟩:=aO (l.take 200);rw [<- hL] at hR;obtain ⟨n,hn⟩:=aO (L.length)
 have hn2:n<=l.length/\n<=200/\(n=l.length\/n=200):=by
  rw [hn,hL,List.length_take];omega
 have hat:∀ i (h1:i < L.length) (h2:i < l.length),L[i]=l[i]:=fun i h1 h2=>by
  subst hL;simp
 clear hL;refine aU 59 1 [.cell 2 42] mixed Tryz.func4 ?_;simp only [go_sem,seval,aI];(with_reducible and_intros)<;>first|exact .dq|omega|skip
 refine aB.walk (S:=af × List Int) n [0,2,3,4] [48] (fun i _=>[(5,.int .i64 i)]) (fun i x=>[(64,.box x.1.cells),(80,.box (ql x.2))]) (fun i x=>wJ (L.drop i) x=R/\vE x i) (af.zero,List.replicate 9 0) ⟨hR.symm,QJ⟩ ?_ ?_ ?_
 ·have hz:ql (List.replicate 9 0)=[.int .i64 0,.int .i64 0,.int .i64 0,.int .i64 0,.int .i64 0,.int .i64 0,.int .i64 0,.int .i64 0,.int .i64 0]:=rfl;simp only [go_sem,seval,af.cells,af.zero,hz,pl];exact gA (by simp [sS])
 ·intro i x hi hdi hwi hI;obtain ⟨hI,hx⟩:=hI;rw [dJ (by omega:i < L.length),hat i (by omega) (by omega)] at hI;have hm:=aD (c:=aY.cells) l (by omega:i < l.length);have hd1:decide ((i:Int) < (l.length:Int))=true:=decide_eq_true (by omega);have hd2:decide ((i:Int) < 200)=true:=decide_eq_true (by omega);have hli:(i:Int) < (l.length:Int):=by omega
  obtain ⟨c,hc⟩:=aO (l[i]);rw [<- hc] at hm hI;simp only [wJ] at hI;have hnext:=BW c hx;obtain ⟨s,q⟩:=x;have hq9:q.length=9:=hx.len;have hcl:=B8 c;have hce:=Pr c.client;have hqn:=hx.num _ (Jj (q:=q) (k:=(jA c).toNat) (by omega));have hDo:=Hf s (GP q c) hx.fY;have hs1:J6 (s,q) c=((tv s (GP q c)).1,if (tv s (GP q c)).2.code=6\/(tv s (GP q c)).2.code=21 then q else q.set (jA c).toNat (q.getD (jA c).toNat 0+1)):=rfl;rw [hs1] at hI hnext;obtain ⟨Z,hZ⟩:=aO (tv s (GP q c));rw [<- hZ] at hDo hI hnext;clear hZ hs1;obtain ⟨T,P⟩:=Z;dsimp only at hDo hI hnext |-;simp only [GP] at hDo;obtain ⟨m,hm0⟩:=aO (jA c);have hce:IntKind.wrap .i64 (1+IntKind.wrap .i64 ((IntKind.wrap .u64 c.client).tmod 8))=m:=by rw [hm0];exact hce
  rw [<- hm0] at hDo hI hnext hcl hqn;have hld:=abo (q:=q) (k:=m.toNat) (by omega);have hst:=VL (q:=q) (k:=m.toNat) (by omega);have hql:=Rh q;obtain ⟨v,hv⟩:=aO (q.getD m.toNat 0);rw [<- hv] at hDo hI hnext hqn hld;have hw1:IntKind.wrap .i64 (v+1)=v+1:=bz (by omega) (by omega);have hm9:m < 9:=by omega
  clear hR hat hv hm0 hx;obtain ⟨B,hB⟩:=aO (ql q);rw [<- hB] at hld hst hql |-;clear hc;simp only [af.cells,aY.cells,aW.cells] at hDo hm |-;simp only [go_sem,seval,aI,hd1,hd2,hm,Int.toNat_natCast,hce,hld,hw1,hql,Nat.mul_one];(with_reducible and_intros)<;>first|exact .dq|omega|skip
  refine aa.pure hDo ?_
  by_cases k6:P.code=6
  ·have d6:(P.code==6)=true:=by simpa using k6
   rw [if_pos (.inl k6)] at hI hnext;simp only [go_sem,seval,bne,d6,hwi];(with_reducible and_intros)<;>first|exact .dq|omega|skip
   refine ah.step (T,q) hi ⟨hI,hnext⟩ ?_;simp only [go_sem,seval,af.cells,<- hB];exact gA (by rw [hB];exact Hv q)
  have d6:(P.code==6)=false:=by simpa using k6
  by_cases k21:P.code=21
  ·have d21:(P.code==21)=true:=by simpa using k21
   rw [if_pos (.inr k21)] at hI hnext;simp only [go_sem,seval,bne,d6,d21,hwi];(with_reducible and_intros)<;>first|exact .dq|omega|skip
   refine ah.step (T,q) hi ⟨hI,hnext⟩ ?_;simp only [go_sem,seval,af.cells,<- hB];exact gA (by rw [hB];exact Hv q)
  have d21:(P.code==21)=false:=by simpa using k21
  rw [if_neg (by omega)] at hI hnext;simp only [go_sem,seval,bne,d6,d21,hwi,hld,hw1,hql,Nat.mul_one];(with_reducible and_intros)<;>first|exact .dq|omega|skip
  refine ah.step (T,q.set m.toNat (v+1)) hi ⟨hI,hnext⟩ ?_;have hst2:List.take m.toNat B++[.int .i64 (v+1)]++List.drop (m.toNat+1) B=ql (q.set m.toNat (v+1)):=by rw [<- hst];simp
  simp only [go_sem,seval,af.cells,hst,hst2];exact gA (Hv _)
 ·intro x hdx hI;have hI:=hI.1;rw [hn,List.drop_length] at hI;have hI:x=R:=hI;subst hI;rcases hn2.2.2 with e | e
  ·have hd1:decide ((n:Int) < (l.length:Int))=false:=decide_eq_false (by omega);simp only [af.cells];simp only [go_sem,seval,aI,hd1]
  ·have hd2:decide ((n:Int) < 200)=false:=decide_eq_false (by omega);simp only [af.cells];cases hd1:decide ((n:Int) < (l.length:Int))
   ·simp only [go_sem,seval,aI,hd1]
   ·simp only [go_sem,seval,aI,hd1,hd2]
theorem RJ (r:List D) (h:jE [.int .i64,.int .i64,.int .i64,.int .i64,.int .i64,.int .i64,.int .i64,.int .i64,.int .i64,.int .i64,.int .i64,.int .i64,.int .i64,.int .i64,.int .i64,.int .i64,.int .i64] r):∃ x:aY,True/\r=x.cells:=by
 simp only [jE,Fit] at h;obtain ⟨_,_,rfl,⟨a0,rfl,r0⟩,_,_,rfl,⟨a1,rfl,r1⟩,_,_,rfl,⟨a2,rfl,r2⟩,_,_,rfl,⟨a3,rfl,r3⟩,_,_,rfl,⟨a4,rfl,r4⟩,_,_,rfl,⟨a5,rfl,r5⟩,_,_,rfl,⟨a6,rfl,r6⟩,_,_,rfl,⟨a7,rfl,r7⟩,_,_,rfl,⟨a8,rfl,r8⟩,_,_,rfl,⟨a9,rfl,r9⟩,_,_,rfl,⟨a10,rfl,r10⟩,_,_,rfl,⟨a11,rfl,r11⟩,_,_,rfl,⟨a12,rfl,r12⟩,_,_,rfl,⟨a13,rfl,r13⟩,_,_,rfl,⟨a14,rfl,r14⟩,_,_,rfl,⟨a15,rfl,r15⟩,_,_,rfl,⟨a16,rfl,r16⟩,rfl⟩:=h;exact ⟨⟨a0,a1,a2,a3,a4,a5,a6,a7,a8,a9,a10,a11,a12,a13,a14,a15,a16⟩,trivial,rfl⟩
end Go.Proofs.YtacacccbcndjoaaGreat
