/- The reference's engine: Do, and what follows. No theorem of a claim. -/
import Derived.Test.YtnkobepdbkmedaaGreatKJ
import Derived.Test.YtnkobepdbkmedaaGreatKK
set_option linter.unusedSimpArgs false
set_option linter.unusedVariables false
set_option maxHeartbeats 4000000
set_option maxRecDepth 16000
namespace Go.Proofs.YtnkobepdbkmedaaGreat
open Go.Abs
theorem Nk (s:af) (c:aZ) (h:s.good) (hk:1<=c.kind/\c.kind<=22):Abs.Spec Tryz.prog 29 [] [.agg s.cells,.agg c.cells] [] (.bI [.agg (aQ s c).1.cells,.agg (aQ s c).2.cells]):=by
 rcases (by omega:c.kind=1\/c.kind=2\/c.kind=3\/c.kind=4\/c.kind=5\/c.kind=6\/c.kind=7\/c.kind=8\/c.kind=9\/c.kind=10\/c.kind=11\/c.kind=12\/c.kind=13\/c.kind=14\/c.kind=15\/c.kind=16\/c.kind=17\/c.kind=18\/c.kind=19\/c.kind=20\/c.kind=21\/c.kind=22) with e | e | e | e | e | e | e | e | e | e | e | e | e | e | e | e | e | e | e | e | e | e
 ·exact VK s c h e
 ·exact WW s c h e
 ·exact WE s c h e
 ·exact Xi s c h e
 ·exact We s c h e
 ·exact Vn s c h e
 ·exact WX s c h e
 ·exact VT s c h e
 ·exact Vz s c h e
 ·exact R3 s c h e
 ·exact Tr s c h e
 ·exact SI s c h e
 ·exact Sj s c h e
 ·exact Tk s c h e
 ·exact Sw s c h e
 ·exact RW s c h e
 ·exact SW s c h e
 ·exact RV s c h e
 ·exact Sr s c h e
 ·exact RO s c h e
 ·exact RZ s c h e
 ·exact Tw s c h e
theorem O9 (s:af) (c:aZ) (h:(aQ s c).2.code≠0):aQ s c=(s,.err (aQ s c).2.code):=by
 unfold aQ bB at h |-;split
 ·rename_i hz;rw [if_pos hz] at h;exact absurd rfl h
 ·rfl
theorem FF (s:af) (c:aZ) (r:bk) (i:Nat):(nI s c r i).length<=1:=by
 unfold nI;split
 ·simp
 ·split<;>simp
theorem I2 (s:af) (c:aZ) (h:s.fZ) (hk:(lA s c).2=false):Abs.Spec Tryz.prog 9 [] [.agg s.cells,.agg c.cells] [.own 7 ((uy s c).1.aJ.map bE.cells)]
  (.bI [.agg [.int .i64 (uy s c).1.now,.int .i64 (uy s c).1.day,.int .i64 (uy s c).1.phase,.sl 3 ((uy s c).1.aj.ms.map ak.cells),.sl 12 ((uy s c).1.aj.ns.map aq.cells),.sl 4 ((uy s c).1.aj.xs.map av.cells),.int .i64 (uy s c).1.book.next,.sl 7 ((uy s c).1.book.ts.map aI.cells),.sl 4 ((uy s c).1.book.qs.map aA.cells),
    .int .i64 (uy s c).1.aU.last,.sl 4 ((uy s c).1.aU.bs.map bp.cells),.sl 3 (pl (uy s c).1.ps),.sl 4 ((uy s c).1.calls.map aB.cells),.sl 5 ((uy s c).1.aX.map bu.cells),.ref 0],.agg (uy s c).2.cells]):=by
 have hg:=h.good;have hf:=Ji h.right hk;have hsl:=h.right.lens.aJ;have c1:=rK s c hg.small;have c2:=Nk s c hg (Kv hf.1).1;have c3:=aP s hg.small;have c4:=fun n=>sH s n (by omega)
 have c5:=lI _ (CR (s:=s) (c:=c) h.right.lens);have hse:=fun n=>AX n s.aJ 0 (by omega)
 have herr:=O9 s c;have hD:uy s c=({ (aQ s c).1 with aJ:=oq (nI s c (aQ s c).2) 8 },(aQ s c).2):=by unfold uy;rw [hk];rfl
 rw [hD];obtain ⟨K,hK⟩:=aL ((lA s c).1);rw [hk,<- hK] at c1;obtain ⟨X,hX⟩:=aL (aQ s c);rw [<- hX] at c2 c5 herr |-;obtain ⟨T,R⟩:=X;dsimp only at c2 c5 herr |-;clear hk hK hX hD hf;simp only [af.cells,aZ.cells,bk.cells] at c1 c2 c3 c4 c5 |-;refine bg 69 2 [.cell 4 42,.cell 5 67] mixed Tryz.func9 ?_;simp only [go_sem,seval];(with_reducible and_intros)<;>first|exact .dq|omega|skip
 refine aa.pure c1 ?_;simp only [go_sem,seval];(with_reducible and_intros)<;>first|exact .dq|omega|skip
 refine aa.pure c2 ?_
 by_cases b:R.code=0
 case pos =>
  have d:(R.code==0)=true:=by simpa using b
  simp only [go_sem,seval,bne,d];(with_reducible and_intros)<;>first|exact .dq|omega|skip
  refine aC.walk (S:=Unit) 8 [2,3,4,5,6,8] [48,64,80,96,144] (fun i _=>[(10,.int .i64 ((i:Int)+1)),(9,.ref 1040)]) (fun i _=>[(112,.box R.cells),(1040,.own 7 ((oq (nI s c R) i).map bE.cells))]) (fun _ _=>True) () trivial ?_ ?_ ?_
  ·simp only [go_sem,seval,bk.cells,kg]<;>simp
  ·intro i _ hi _ _ _;have hd:decide ((i:Int)+1<=8)=true:=decide_eq_true (by omega);have hw:IntKind.wrap .i64 ((i:Int)+1+1)=((i+1:Nat):Int)+1:=by rw [bz (by omega) (by omega)];omega
   have hs:=iI (nI s c R) i;have hl:=kE (FF s c R) i;obtain ⟨L,hL⟩:=aL (oq (nI s c R) i);obtain ⟨k,hk⟩:=aL ((i:Int)+1);have c4k:=c4 k;have hsk:=hse k;rw [<- hL] at hs hl |-;simp only [nI,<- hk] at hs;rw [<- hk] at hd hw |-;obtain ⟨v,hv⟩:=aL (gr k s.aJ 0);rw [<- hv] at hs c4k hsk;clear c4 hse hL hv c1 c2 c3;simp only [bk.cells];simp only [go_sem,seval,hd];(with_reducible and_intros)<;>first|exact .dq|omega|skip
   refine aa.pure c4k ?_
   by_cases q:k=c.client
   ·have d2:(k==c.client)=true:=by simpa using q
    rw [if_pos q] at hs;simp only [go_sem,seval,d2];(with_reducible and_intros)<;>first|exact .dq|omega|skip
    refine aa.pure c5 ?_;simp only [go_sem,seval,hw,aG];(with_reducible and_intros)<;>first|exact .dq|omega|skip
    refine ah.step () hi trivial ?_;simp only [go_sem,seval,hs]<;>simp
   have d2:(k==c.client)=false:=by simpa using q
   rw [if_neg q] at hs
   by_cases q3:0<=v
   ·obtain ⟨j,hj,e,_⟩:=hsk q3;have hvj:v=(j:Int):=by omega
    subst hvj;have d3:decide (0<=(j:Int))=true:=by simp
    rw [if_pos q3,show kR s (j:Int)=s.aJ[j] from by simp [kR,hj]] at hs;have hm:=aD (c:=bE.cells) s.aJ hj;have hlj:(j:Int) < (s.aJ.length:Int):=by omega
    obtain ⟨x,hx⟩:=aL (s.aJ[j]);rw [<- hx] at hm hs;simp only [bE.cells] at hm;simp only [go_sem,seval,d2,d3,aG,hm,Int.toNat_natCast];(with_reducible and_intros)<;>first|exact .dq|omega|skip
    simp only [go_sem,seval,hw,aG];(with_reducible and_intros)<;>first|exact .dq|omega|skip
    refine ah.step () hi trivial ?_;simp only [go_sem,seval,hs]<;>simp
   ·have d3:decide (0<=v)=false:=by simpa using q3
    rw [if_neg q3,List.append_nil] at hs;simp only [go_sem,seval,d2,d3,hw];(with_reducible and_intros)<;>first|exact .dq|omega|skip
    refine ah.step () hi trivial ?_;simp only [go_sem,seval,hs]<;>simp
  ·intro _ _ _;have hdx:decide (((8:Nat):Int)+1<=8)=false:=by decide
   simp only [bk.cells];simp only [go_sem,seval,hdx];(with_reducible and_intros)<;>first|exact .dq|omega|skip
 have d:(R.code==0)=false:=by simpa using b
 have hTR:=herr b;simp only [Prod.mk.injEq] at hTR;obtain ⟨rfl,hR⟩:=hTR;simp only [go_sem,seval,bne,d];(with_reducible and_intros)<;>first|exact .dq|omega|skip
 refine aa.pure c3 ?_;simp only [go_sem,seval];(with_reducible and_intros)<;>first|exact .dq|omega|skip
 refine aC.walk (S:=Unit) 8 [2,3,4,5,6,8] [48,64,80,96,144] (fun i _=>[(10,.int .i64 ((i:Int)+1)),(9,.ref 1040)]) (fun i _=>[(112,.box R.cells),(1040,.own 7 ((oq (nI T c R) i).map bE.cells))]) (fun _ _=>True) () trivial ?_ ?_ ?_
 ·have r1:R.no=0:=by rw [hR];rfl
  have r2:R.bW=0:=by rw [hR];rfl
  have r3:R.DW=[]:=by rw [hR];rfl
  have r4:R.falls=[]:=by rw [hR];rfl
  simp only [go_sem,seval,bk.cells,kg,r1,r2,r3,r4,List.map_nil]<;>simp
 ·intro i _ hi _ _ _;have hd:decide ((i:Int)+1<=8)=true:=decide_eq_true (by omega);have hw:IntKind.wrap .i64 ((i:Int)+1+1)=((i+1:Nat):Int)+1:=by rw [bz (by omega) (by omega)];omega
  have hs:=iI (nI T c R) i;have hl:=kE (FF T c R) i;obtain ⟨L,hL⟩:=aL (oq (nI T c R) i);obtain ⟨k,hk⟩:=aL ((i:Int)+1);have c4k:=c4 k;have hsk:=hse k;rw [<- hL] at hs hl |-;simp only [nI,<- hk] at hs;rw [<- hk] at hd hw |-;obtain ⟨v,hv⟩:=aL (gr k T.aJ 0);rw [<- hv] at hs c4k hsk;clear c4 hse hL hv c1 c2 c3;simp only [bk.cells];simp only [go_sem,seval,hd];(with_reducible and_intros)<;>first|exact .dq|omega|skip
  refine aa.pure c4k ?_
  by_cases q:k=c.client
  ·have d2:(k==c.client)=true:=by simpa using q
   rw [if_pos q] at hs;simp only [go_sem,seval,d2];(with_reducible and_intros)<;>first|exact .dq|omega|skip
   refine aa.pure c5 ?_;simp only [go_sem,seval,hw,aG];(with_reducible and_intros)<;>first|exact .dq|omega|skip
   refine ah.step () hi trivial ?_;simp only [go_sem,seval,hs]<;>simp
  have d2:(k==c.client)=false:=by simpa using q
  rw [if_neg q] at hs
  by_cases q3:0<=v
  ·obtain ⟨j,hj,e,_⟩:=hsk q3;have hvj:v=(j:Int):=by omega
   subst hvj;have d3:decide (0<=(j:Int))=true:=by simp
   rw [if_pos q3,show kR T (j:Int)=T.aJ[j] from by simp [kR,hj]] at hs;have hm:=aD (c:=bE.cells) T.aJ hj;have hlj:(j:Int) < (T.aJ.length:Int):=by omega
   obtain ⟨x,hx⟩:=aL (T.aJ[j]);rw [<- hx] at hm hs;simp only [bE.cells] at hm;simp only [go_sem,seval,d2,d3,aG,hm,Int.toNat_natCast];(with_reducible and_intros)<;>first|exact .dq|omega|skip
   simp only [go_sem,seval,hw,aG];(with_reducible and_intros)<;>first|exact .dq|omega|skip
   refine ah.step () hi trivial ?_;simp only [go_sem,seval,hs]<;>simp
  ·have d3:decide (0<=v)=false:=by simpa using q3
   rw [if_neg q3,List.append_nil] at hs;simp only [go_sem,seval,d2,d3,hw];(with_reducible and_intros)<;>first|exact .dq|omega|skip
   refine ah.step () hi trivial ?_;simp only [go_sem,seval,hs]<;>simp
 ·intro _ _ _;have hdx:decide (((8:Nat):Int)+1<=8)=false:=by decide
  simp only [bk.cells];simp only [go_sem,seval,hdx];(with_reducible and_intros)<;>first|exact .dq|omega|skip
theorem FO (s:af) (c:aZ) (h:s.fZ):Abs.Spec Tryz.prog 9 [] [.agg s.cells,.agg c.cells] [] (.bI [.agg (uy s c).1.cells,.agg (uy s c).2.cells]):=by
 cases hk:(lA s c).2
 ·refine Spec.frozen (I2 s c h hk) [0] rfl ?_;intro r;rcases r with _ | r<;>rfl
 ·have c1:=rK s c h.good.small;have hD:uy s c=(s,(lA s c).1):=by unfold uy;rw [hk];rfl
  rw [hD];rw [hk] at c1;obtain ⟨K,hK⟩:=aL ((lA s c).1);rw [<- hK] at c1 |-;simp only [af.cells,aZ.cells,bk.cells] at c1 |-;refine bg 69 2 [.cell 4 42,.cell 5 67] mixed Tryz.func9 ?_;simp only [go_sem,seval];(with_reducible and_intros)<;>first|exact .dq|omega|skip
  refine aa.pure c1 ?_;simp only [go_sem,seval];(with_reducible and_intros)<;>first|exact .dq|omega|skip
def jx (c:aZ):Int:=c.client%8+1
def He (q:List Int) (c:aZ):aZ:={ c with client:=jx c,seq:=q.getD (jx c).toNat 0+1 }
def Iu (x:af × List Int) (c:aZ):af × List Int:=
 ((uy x.1 (He x.2 c)).1,if (uy x.1 (He x.2 c)).2.code=6\/(uy x.1 (He x.2 c)).2.code=21 then x.2 else x.2.set (jx c).toNat (x.2.getD (jx c).toNat 0+1))
def CG:List aZ->af × List Int->af × List Int
 | [],x=>x
 | c :: r,x=>CG r (Iu x c)
def I8 (l:List aZ):af:=(CG (l.take 200) (af.zero,List.replicate 9 0)).1
structure xO (x:af × List Int) (i:Nat):Prop where
 fZ:x.1.fZ
 Ua:cy x.1
 len:x.2.length=9
 num:∀ v∈x.2,0<=v/\v<=i
theorem Bi (c:aZ):1<=jx c/\jx c<=8:=by unfold jx;omega
theorem J0 {q:List Int} {k:Nat} (h:k < q.length):q.getD k 0∈q:=by
 rw [List.getD_eq_getElem?_getD,List.getElem?_eq_getElem h];exact List.getElem_mem h
theorem Ic {x:af × List Int} {i:Nat} (c:aZ) (h:xO x i):xO (Iu x c) (i+1):=by
 have hc:=Bi c;have hl:=h.len;refine ⟨Qk h.fZ,OV h.fZ.right h.Ua,?_,?_⟩
 ·unfold Iu;dsimp only;split
  ·exact hl
  ·rw [List.length_set];exact hl
 ·unfold Iu;dsimp only;split
  ·intro v hv;have:=h.num v hv;omega
  ·intro v hv;rcases List.mem_or_eq_of_mem_set hv with hv | rfl
   ·have:=h.num v hv;omega
   ·have:=h.num _ (J0 (q:=x.2) (k:=(jx c).toNat) (by omega));omega
theorem UD:xO (af.zero,List.replicate 9 0) 0:=⟨Oq,fun c _=>rfl,by simp,fun v hv=>by
 have:=List.eq_of_mem_replicate hv
 omega⟩
theorem Jw:∀ (l:List aZ) (x:af × List Int) (i:Nat),xO x i->xO (CG l x) (i+l.length)
 | [],_,_,h=>h
 | c :: r,x,i,h=>by
  have:=Jw r _ _ (Ic c h);simp only [CG,List.length_cons]
  rwa [show i+(r.length+1)=i+1+r.length by omega]
theorem QS (l:List aZ):(I8 l).fZ/\cy (I8 l):=by
 have:=Jw (l.take 200) _ 0 UD;exact ⟨this.fZ,this.Ua⟩
def ql (q:List Int):List D:=q.map fun x=>.int .i64 x
theorem QJ (q:List Int):(ql q).length=q.length:=by simp [ql]
theorem Gp (q:List Int):∀ d∈ql q,sY d=true:=by simp [ql,sY]
theorem aaa {q:List Int} {k:Nat} (h:k < q.length):((ql q).drop k).headD .undef=.int .i64 (q.getD k 0):=by
 rw [List.drop_eq_getElem_cons (by rw [QJ];exact h)];simp [ql,h]
theorem Vm {q:List Int} {k:Nat} (h:k < q.length) (v:Int):(ql q).take k++.int .i64 v :: (ql q).drop (k+1)=ql (q.set k v):=by
 unfold ql;rw [<- List.map_take,<- List.map_drop,List.set_eq_take_append_cons_drop,if_pos h];simp
theorem Oo (n:Int):IntKind.wrap .i64 (1+IntKind.wrap .i64 ((IntKind.wrap .u64 n).tmod 8))=n%8+1:=by
 have h:IntKind.wrap .u64 n=n%18446744073709551616:=by rw [IntKind.wrap_u64]
 rw [h,Int.tmod_eq_emod_of_nonneg (by omega),bz (x:=n%18446744073709551616%8) (by omega) (by omega),bz (by omega) (by omega)];omega
theorem KO (l:List aZ) (hlen:l.length<=1000):Abs.Spec Tryz.prog 4 [] [.sl 17 (l.map aZ.cells)] [] (.agg (I8 l).cells):=by
 obtain ⟨R,hR⟩:=aL (CG (l.take 200) (af.zero,List.replicate 9 0));have hgr:I8 l=R.1:=by rw [hR];rfl
 rw [hgr];clear hgr;obtain ⟨L,hL⟩:=aL (l.take 200);rw [<- hL] at hR;obtain ⟨n,hn⟩:=aL (L.length)
 have hn2:n<=l.length/\n<=200/\(n=l.length\/n=200):=by
  rw [hn,hL,List.length_take];omega
 have hat:∀ i (h1:i < L.length) (h2:i < l.length),L[i]=l[i]:=fun i h1 h2=>by
  subst hL;simp
 clear hL;refine bg 59 1 [.cell 2 42] mixed Tryz.func4 ?_;simp only [go_sem,seval,aG];(with_reducible and_intros)<;>first|exact .dq|omega|skip
 refine aC.walk (S:=af × List Int) n [0,2,3,4] [48] (fun i _=>[(5,.int .i64 i)]) (fun i x=>[(64,.box x.1.cells),(80,.box (ql x.2))]) (fun i x=>CG (L.drop i) x=R/\xO x i) (af.zero,List.replicate 9 0) ⟨hR.symm,UD⟩ ?_ ?_ ?_
 ·have hz:ql (List.replicate 9 0)=[.int .i64 0,.int .i64 0,.int .i64 0,.int .i64 0,.int .i64 0,.int .i64 0,.int .i64 0,.int .i64 0,.int .i64 0]:=rfl;simp only [go_sem,seval,af.cells,af.zero,hz,pl];exact gv (by simp [sY])
 ·intro i x hi hdi hwi hI;obtain ⟨hI,hx⟩:=hI;rw [dy (by omega:i < L.length),hat i (by omega) (by omega)] at hI;have hm:=aD (c:=aZ.cells) l (by omega:i < l.length);have hd1:decide ((i:Int) < (l.length:Int))=true:=decide_eq_true (by omega);have hd2:decide ((i:Int) < 200)=true:=decide_eq_true (by omega);have hli:(i:Int) < (l.length:Int):=by omega
  obtain ⟨c,hc⟩:=aL (l[i]);rw [<- hc] at hm hI;simp only [CG] at hI;have hnext:=Ic c hx;obtain ⟨s,q⟩:=x;have hq9:q.length=9:=hx.len;have hcl:=Bi c;have hce:=Oo c.client;have hqn:=hx.num _ (J0 (q:=q) (k:=(jx c).toNat) (by omega));have hDo:=FO s (He q c) hx.fZ;have hs1:Iu (s,q) c=((uy s (He q c)).1,if (uy s (He q c)).2.code=6\/(uy s (He q c)).2.code=21 then q else q.set (jx c).toNat (q.getD (jx c).toNat 0+1)):=rfl;rw [hs1] at hI hnext;obtain ⟨Z,hZ⟩:=aL (uy s (He q c));rw [<- hZ] at hDo hI hnext;clear hZ hs1;obtain ⟨T,P⟩:=Z;dsimp only at hDo hI hnext |-;simp only [He] at hDo;obtain ⟨m,hm0⟩:=aL (jx c);have hce:IntKind.wrap .i64 (1+IntKind.wrap .i64 ((IntKind.wrap .u64 c.client).tmod 8))=m:=by rw [hm0];exact hce
  rw [<- hm0] at hDo hI hnext hcl hqn;have hld:=aaa (q:=q) (k:=m.toNat) (by omega);have hst:=Vm (q:=q) (k:=m.toNat) (by omega);have hql:=QJ q;obtain ⟨v,hv⟩:=aL (q.getD m.toNat 0);rw [<- hv] at hDo hI hnext hqn hld;have hw1:IntKind.wrap .i64 (v+1)=v+1:=bz (by omega) (by omega);have hm9:m < 9:=by omega
  clear hR hat hv hm0 hx;obtain ⟨B,hB⟩:=aL (ql q);rw [<- hB] at hld hst hql |-;clear hc;simp only [af.cells,aZ.cells,bk.cells] at hDo hm |-;simp only [go_sem,seval,aG,hd1,hd2,hm,Int.toNat_natCast,hce,hld,hw1,hql,Nat.mul_one];(with_reducible and_intros)<;>first|exact .dq|omega|skip
  refine aa.pure hDo ?_
  by_cases k6:P.code=6
  ·have d6:(P.code==6)=true:=by simpa using k6
   rw [if_pos (.inl k6)] at hI hnext;simp only [go_sem,seval,bne,d6,hwi];(with_reducible and_intros)<;>first|exact .dq|omega|skip
   refine ah.step (T,q) hi ⟨hI,hnext⟩ ?_;simp only [go_sem,seval,af.cells,<- hB];exact gv (by rw [hB];exact Gp q)
  have d6:(P.code==6)=false:=by simpa using k6
  by_cases k21:P.code=21
  ·have d21:(P.code==21)=true:=by simpa using k21
   rw [if_pos (.inr k21)] at hI hnext;simp only [go_sem,seval,bne,d6,d21,hwi];(with_reducible and_intros)<;>first|exact .dq|omega|skip
   refine ah.step (T,q) hi ⟨hI,hnext⟩ ?_;simp only [go_sem,seval,af.cells,<- hB];exact gv (by rw [hB];exact Gp q)
  have d21:(P.code==21)=false:=by simpa using k21
  rw [if_neg (by omega)] at hI hnext;simp only [go_sem,seval,bne,d6,d21,hwi,hld,hw1,hql,Nat.mul_one];(with_reducible and_intros)<;>first|exact .dq|omega|skip
  refine ah.step (T,q.set m.toNat (v+1)) hi ⟨hI,hnext⟩ ?_;have hst2:List.take m.toNat B++[.int .i64 (v+1)]++List.drop (m.toNat+1) B=ql (q.set m.toNat (v+1)):=by rw [<- hst];simp
  simp only [go_sem,seval,af.cells,hst,hst2];exact gv (Gp _)
 ·intro x hdx hI;have hI:=hI.1;rw [hn,List.drop_length] at hI;have hI:x=R:=hI;subst hI;rcases hn2.2.2 with e | e
  ·have hd1:decide ((n:Int) < (l.length:Int))=false:=decide_eq_false (by omega);simp only [af.cells];simp only [go_sem,seval,aG,hd1]
  ·have hd2:decide ((n:Int) < 200)=false:=decide_eq_false (by omega);simp only [af.cells];cases hd1:decide ((n:Int) < (l.length:Int))
   ·simp only [go_sem,seval,aG,hd1]
   ·simp only [go_sem,seval,aG,hd1,hd2]
theorem Pn (r:List D) (h:jF [.int .i64,.int .i64,.int .i64,.int .i64,.int .i64,.int .i64,.int .i64,.int .i64,.int .i64,.int .i64,.int .i64,.int .i64,.int .i64,.int .i64,.int .i64,.int .i64,.int .i64] r):∃ x:aZ,True/\r=x.cells:=by
 simp only [jF,Fit] at h;obtain ⟨_,_,rfl,⟨a0,rfl,r0⟩,_,_,rfl,⟨a1,rfl,r1⟩,_,_,rfl,⟨a2,rfl,r2⟩,_,_,rfl,⟨a3,rfl,r3⟩,_,_,rfl,⟨a4,rfl,r4⟩,_,_,rfl,⟨a5,rfl,r5⟩,_,_,rfl,⟨a6,rfl,r6⟩,_,_,rfl,⟨a7,rfl,r7⟩,_,_,rfl,⟨a8,rfl,r8⟩,_,_,rfl,⟨a9,rfl,r9⟩,_,_,rfl,⟨a10,rfl,r10⟩,_,_,rfl,⟨a11,rfl,r11⟩,_,_,rfl,⟨a12,rfl,r12⟩,_,_,rfl,⟨a13,rfl,r13⟩,_,_,rfl,⟨a14,rfl,r14⟩,_,_,rfl,⟨a15,rfl,r15⟩,_,_,rfl,⟨a16,rfl,r16⟩,rfl⟩:=h;exact ⟨⟨a0,a1,a2,a3,a4,a5,a6,a7,a8,a9,a10,a11,a12,a13,a14,a15,a16⟩,trivial,rfl⟩
theorem NH {s:af} (h:s.fZ) (hp:cy s):Abs.Spec Tryz.prog 8 [] [.agg s.cells] [] (.bool true):=by
 have l:=h.right.lens;have h1:=l.ns;have h2:=l.qs;have h3:=l.bs;have e:=jC s ⟨h.good.small,by omega,by omega,by omega⟩ (by omega) (by omega) (h.right.cE h.last h.fit)
 rwa [holds_of h.right hp] at e
end Go.Proofs.YtnkobepdbkmedaaGreat
