/- The reference's margin, and what follows. No theorem of a claim. -/
import Derived.Test.YtacacccbcndjoaaGreatKC
import Derived.Test.YtacacccbcndjoaaGreatKA
set_option linter.unusedSimpArgs false
set_option linter.unusedVariables false
set_option maxHeartbeats 4000000
set_option maxRecDepth 16000
namespace Go.Proofs.YtacacccbcndjoaaGreat
open Go.Abs
theorem Tp (p:aA):within p.aX (-1099511627776) 1099511627776=x9 p:=by
 rw [Bool.eq_iff_iff];simp [within,x9]
theorem P2 (j:Nat) (p:gV):-p.q*(p.i.mult*p.i.sh j)=rG j p:=by rw [rG,Int.mul_assoc]
theorem BM (r:aq) (w c:Int) (qs:List aA) (hr:r.small) (hq:qs.length < 2 ^ 30):Abs.Spec Tryz.prog 274 [] [.agg r.cells,.int .i64 w,.int .i64 c,.sl 4 (qs.map aA.cells)] [] (.bD [.agg (DU r w c qs),.int .i64 (uu r w c qs)]):=by
 have h2:=dK r hr;have h5:=fun n=>dc r n hr
 have hz0:=ru [];simp only [aq.cells] at h2 h5 |-;refine aU 115 4 [.cell 8 60,.tmp 9] mixed Tryz.func274 ?_;simp only [go_sem,seval];refine aa.pure h2 ?_;cases b2:r.okB
 ·have e:PA r qs=14:=by simp [PA,b2]
  have e1:uu r w c qs=14:=by simp [uu,e]
  have e2:DU r w c qs=fO [] 0:=by simp [DU,e1]
  rw [e1,e2,hz0];simp only [go_sem,seval]
 simp only [go_sem,seval,aI];refine aB.walk (S:=Unit) qs.length [1,2,3,4,8,10] [80,144,176] (fun i _=>[(11,.int .i64 i)]) (fun i _=>[]) (fun i _=>∀ j (hj:j < qs.length),j < i->x9 qs[j]=true) () (by intros;omega) ?_ ?_ ?_
 ·simp only [go_sem,seval]<;>simp
 ·intro i _ hi hdi hwi hI;have hm:=aD (c:=aA.cells) qs hi;have hv:=eP qs[i].aX (-1099511627776) 1099511627776;rw [Tp] at hv;simp only [aA.cells] at hm;simp only [go_sem,seval,aI,hdi,hm];(with_reducible and_intros)<;>first|exact .dq|omega|skip
  refine aa.pure hv ?_;cases hb:x9 qs[i]
  ·have:qs.all x9=false:=by
    cases hc:qs.all x9
    ·rfl
    ·rw [List.all_eq_true.1 hc _ (List.getElem_mem hi)] at hb;cases hb
   have e:PA r qs=3:=by simp [PA,b2,this]
   have e1:uu r w c qs=3:=by simp [uu,e]
   have e2:DU r w c qs=fO [] 0:=by simp [DU,e1]
   rw [e1,e2,hz0];simp only [go_sem,seval]
  ·simp only [go_sem,seval,hwi];refine ah.step () hi ?_ ?_
   ·intro j hj hji;rcases Nat.lt_or_ge j i with h | h
    ·exact hI j hj h
    ·obtain rfl:j=i:=by omega
     exact hb
   ·simp only [go_sem,seval]
 intro _ hdx hI
 have hall:qs.all x9=true:=List.all_eq_true.2 fun p hp=>by
  obtain ⟨j,hj,rfl⟩:=List.mem_iff_getElem.1 hp;exact hI j hj hj
 have hE:PA r qs=0:=by simp [PA,b2,hall]
 have hpo:=KQ (w:=w) (c:=c) hE;have hpl:=At r w c qs;have e2:uu r w c qs=if lW (mV r w c qs) then 1 else 0:=by simp [uu,hE]
 simp only [DU,e2];clear e2 hI;have hz:=ru (mV r w c qs);simp only [go_sem,seval,aI,hdx];clear hdx;refine aB.walk (S:=Unit) 6 [1,2,3,4,8,10] [80,144] (fun i _=>[(12,.int .i64 i)]) (fun i _=>[(176,.box (fO (mV r w c qs) i))]) (fun i _=>∀ j < i,bS (kY (mV r w c qs) j)=true) () (by intros;omega) ?_ ?_ ?_
 ·simp only [go_sem,seval,hz]<;>simp
 ·intro j _ hj hdj hwj hI;have hdj:decide ((j:Int) < 6)=true:=hdj;have hall2:=TT hpo j (by omega);have hset:=KC (mV r w c qs) hj;obtain ⟨B,hB⟩:=aO (fO (mV r w c qs) j);have hBl:B.length=6:=by rw [hB];rfl
  have hleaf1:∀ d∈fO (mV r w c qs) (j+1),sS d=true:=by simp [fO,jf,sS]
  have hleaf:∀ d∈B,sS d=true:=by rw [hB];simp [fO,jf,sS]
  rw [<- hB] at hset |-;simp only [go_sem,seval,hdj];refine aB.walk (S:=Unit) qs.length [1,2,3,4,8,10,12] [80,144,176] (fun i _=>[(14,.int .i64 i),(13,.ref 1504)]) (fun i _=>[(1504,.own 2 (qz ((mV r w c (qs.take i)).map (rG j))))]) (fun i _=>True) () trivial ?_ ?_ ?_
  ·simp only [go_sem,seval]<;>simp [qz,mV,gA hleaf,nK hleaf]
  ·intro i _ hi hdi hwi _;have hm:=aD (c:=aA.cells) qs hi;have hs:=It r w c qs hi;have hlen:=At r w c (qs.take i);have hlt:(qs.take i).length=i:=by simp;omega
   have hA:=h5 qs[i].inst;obtain ⟨x,hx⟩:=aO (aV r qs[i].inst);have hxok:bf r qs[i].inst=true->x.ok=true:=fun h=>by rw [hx];exact uj b2 h
   have hqty:=List.all_eq_true.1 hall qs[i] (List.getElem_mem hi);have hwl:(qz ((mV r w c (qs.take i)).map (rG j))).length<=i:=by simp [qz];omega
   have hlI:(i:Int) < (qs.length:Int):=by omega
   simp only [FJ,<- hx] at hs;rw [<- hx] at hA;simp only [aA.cells] at hm;simp only [ay.cells] at hA;simp only [go_sem,seval,aI,hdi,hm];(with_reducible and_intros)<;>first|exact .dq|omega|skip
   refine aa.pure hA ?_;cases p1:bf r qs[i].inst
   ·simp only [p1,Bool.false_and,ir,if_false] at hs;simp only [go_sem,seval,aI,p1,hwi];(with_reducible and_intros)<;>first|exact .dq|omega|skip
    refine ah.step () hi trivial ?_;simp only [go_sem,seval,hs]<;>simp [gA hleaf,nK hleaf]
   cases p2:qs[i].who==w
   ·simp only [p1,p2,Bool.false_and,Bool.true_and,ir,if_false] at hs;simp only [go_sem,seval,aI,hm,p1,p2,hwi];(with_reducible and_intros)<;>first|exact .dq|omega|skip
    refine ah.step () hi trivial ?_;simp only [go_sem,seval,hs]<;>simp [gA hleaf,nK hleaf]
   cases p3:x.cur==c
   ·simp only [p1,p2,p3,Bool.and_false,Bool.true_and,ir,if_false] at hs;simp only [go_sem,seval,aI,hm,p1,p2,p3,hwi];(with_reducible and_intros)<;>first|exact .dq|omega|skip
    refine ah.step () hi trivial ?_;simp only [go_sem,seval,hs]<;>simp [gA hleaf,nK hleaf]
   simp only [p1,p2,p3,Bool.and_self,if_true] at hs;have hk:=hxok p1;obtain ⟨⟨m1,m2⟩,-⟩:=nQ hk;have hsr:=A0 hk j;simp only [x9,cg,Bool.not_eq_true',decide_eq_false_iff_not] at hqty;have hsa:=abi ⟨x,qs[i].aX⟩ hj;have r1:=fI (a:=x.mult) (b:=x.sh j) (A:=1024) (B:=1073741824) (by omega) hsr;have r1:-1099511627776<=x.mult*x.sh j/\x.mult*x.sh j<=1099511627776:=r1;have w1:IntKind.wrap .i64 (0-qs[i].aX) = -qs[i].aX:=by rw [bz (by omega) (by omega)];omega
   have w2:IntKind.wrap .i64 (x.mult*x.sh j)=x.mult*x.sh j:=bz (by omega) (by omega);have ht:=lq (-qs[i].aX) (x.mult*x.sh j) ⟨by omega,by omega⟩ ⟨by omega,by omega⟩;have hF:-qs[i].aX*(x.mult*x.sh j)=rG j ⟨x,qs[i].aX⟩:=P2 j ⟨x,qs[i].aX⟩;rw [hF] at ht;simp only [wd] at ht
   have hix2:(List.drop (6+j*1) x.cells).headD .undef=.int .i64 (x.sh j):=by
    rcases j with _ | _ | _ | _ | _ | _ | j<;>first | rfl | omega
   simp only [ay.cells] at hix2;simp only [go_sem,seval,aI,hm,p1,p2,p3,hwi,w1,hix2,w2];(with_reducible and_intros)<;>first|exact .dq|omega|skip
   refine aa.pure ht ?_;simp only [go_sem,seval,hwi];(with_reducible and_intros)<;>first|exact .dq|omega|skip
   refine ah.step () hi trivial ?_;simp only [go_sem,seval,hs]<;>simp [wd,qz,gA hleaf,nK hleaf]
  ·intro _ hdx _;have hs:=jO ((mV r w c qs).map (rG j)) (by simp;omega) hall2.1;have hI2:=jR (kY (mV r w c qs) j);have e:aC ((mV r w c qs).map (rG j))=kY (mV r w c qs) j:=rfl;rw [e,hall2.2,if_pos rfl] at hs;obtain ⟨S,hS⟩:=aO (kY (mV r w c qs) j);rw [<- hS] at hs hI2 hset
   have hgood:bS S=true->∀ k < j+1,bS (kY (mV r w c qs) k)=true:=fun hx k hk=>by
    rcases Nat.lt_or_ge k j with h | h
    ·exact hI k h
    ·obtain rfl:k=j:=by omega
     rw [<- hS];exact hx
   have hbad:bS S=false->lW (mV r w c qs)=true:=fun hx=>by
    simp only [lW,List.any_eq_true,List.mem_range];exact ⟨j,hj,by rw [<- hS,hx];rfl⟩
   simp only [wd] at hs hI2;simp only [go_sem,seval,aI,hdx,List.take_length];refine aa.gen [] [] true (by simp) ?_;simp only [go_sem,seval];refine bg.intro hs ?_;simp only [go_sem,seval];refine aa.pure hI2 ?_;cases hi:bS S
   ·have hb:=hbad hi;simp only [go_sem,seval,hi,hb,fO,jf]
   ·simp only [go_sem,seval] at hset;simp only [go_sem,seval,hi,hset,hwj];(with_reducible and_intros)<;>first|exact .dq|omega|skip
    refine ah.step () hj (hgood hi) ?_;simp only [go_sem,seval];exact gA hleaf1
 ·intro _ hdx hI;have hdx:decide ((6:Int) < 6)=false:=hdx
  have hb:lW (mV r w c qs)=false:=by
   simp only [lW,List.any_eq_false,List.mem_range];intro k hk;simp [hI k hk]
  simp only [go_sem,seval,hdx,hb,fO,jf]
theorem Cn (r:aq) (w c:Int) (qs:List aA) (hr:r.small) (hq:qs.length < 2 ^ 30):Abs.Spec Tryz.prog 246 [] [.agg r.cells,.int .i64 w,.int .i64 c,.sl 4 (qs.map aA.cells)] [] (.bD [.int .i64 (zV r w c qs),.int .i64 (Bq r w c qs)]):=by
 have hL:=BM r w c qs hr hq;have h5:=fun n=>dc r n hr
 simp only [aq.cells] at hL h5 |-;refine aU 114 4 [.tmp 8,.tmp 9] mixed Tryz.func246 ?_;simp only [go_sem,seval];refine aa.pure hL ?_
 by_cases hE:uu r w c qs=0
 case neg =>
  have b1:(uu r w c qs != 0)=true:=by simpa using hE
  have e1:Bq r w c qs=uu r w c qs:=by simp [Bq,hE]
  have e2:zV r w c qs=0:=by simp [zV,hE]
  have e3:DU r w c qs=fO [] 0:=by simp [DU,hE]
  rw [e1,e2,e3,ru];simp only [go_sem,seval,b1]
 obtain ⟨hpc,hbad⟩:=NN hE;have hpo:=KQ (w:=w) (c:=c) hpc;have hpl:=At r w c qs
 have hko:r.okB=true/\qs.all x9=true:=by
  unfold PA at hpc;split at hpc
  ·rename_i h1;split at hpc
   ·rename_i h2;exact ⟨h1,h2⟩
   ·cases hpc
  ·cases hpc
 have e2:Bq r w c qs=if bS (IZ (mV r w c qs)) then 0 else 1:=by simp [Bq,hE]
 have e3:zV r w c qs=if bS (IZ (mV r w c qs)) then IZ (mV r w c qs) else 0:=by simp [zV,hE]
 have e4:DU r w c qs=[.int .i64 (kY (mV r w c qs) 0),.int .i64 (kY (mV r w c qs) 1),.int .i64 (kY (mV r w c qs) 2),.int .i64 (kY (mV r w c qs) 3),.int .i64 (kY (mV r w c qs) 4),.int .i64 (kY (mV r w c qs) 5)]:=by simp [DU,hE,fO,jf]
 rw [e2,e3,e4];clear e2 e3 e4 hL;have hin:=Md hbad;obtain ⟨T,hT⟩:=aO (IZ (mV r w c qs));rw [<- hT];simp only [IZ] at hT;obtain ⟨L,hLd⟩:=aO (kY (mV r w c qs));rw [<- hLd] at hin hT |-;simp only [go_sem,seval,hE];refine aB.walk (S:=Unit) 6 [1,2,3,4,10] [80,176] (fun i _=>[(13,.int .i64 i),(12,.int .i64 (uR L i))]) (fun i _=>[]) (fun i _=>True) () trivial ?_ ?_ ?_
 ·simp only [go_sem,seval]<;>simp [uR]
 ·intro i _ hi hdi hwi _;have hdi:decide ((i:Int) < 6)=true:=hdi;have hsx:=Q2 L hi;simp only [go_sem,seval,hdi,hsx,hwi];(with_reducible and_intros)<;>first|exact .dq|omega|skip
  refine ah.step () hi trivial ?_;simp only [go_sem,seval,uR]
 intro _ hdx _;have hdx:decide ((6:Int) < 6)=false:=hdx;have hmr:=Jt (f:=L) 6 hin;obtain ⟨M,hM⟩:=aO (uR L 6);rw [<- hM] at hmr hT |-;have hO:=rq M (by omega);simp only [wd] at hO;simp only [go_sem,seval,hdx];refine aa.pure hO ?_;simp only [go_sem,seval,aI];refine aB.walk (S:=Unit) qs.length [1,2,3,4] [80] (fun i _=>[(15,.int .i64 i),(14,.ref 1552)]) (fun i _=>[(1552,.own 2 (qz (M :: (mV r w c (qs.take i)).map J4)))]) (fun i _=>True) () trivial ?_ ?_ ?_
 ·simp only [go_sem,seval]<;>simp [qz,wd,mV]
 ·intro i _ hi hdi hwi _;have hm:=aD (c:=aA.cells) qs hi;have hs:=It r w c qs hi;have hlen:=At r w c (qs.take i);have hlt:(qs.take i).length=i:=by simp;omega
  have hA:=h5 qs[i].inst;obtain ⟨x,hx⟩:=aO (aV r qs[i].inst);have hxok:bf r qs[i].inst=true->x.ok=true:=fun h=>by rw [hx];exact uj hko.1 h
  have hqty:=List.all_eq_true.1 hko.2 qs[i] (List.getElem_mem hi);have hwl:(qz (M :: (mV r w c (qs.take i)).map J4)).length<=i+1:=by simp [qz];omega
  have hlI:(i:Int) < (qs.length:Int):=by omega
  simp only [FJ,<- hx] at hs;rw [<- hx] at hA;simp only [aA.cells] at hm;simp only [ay.cells] at hA;simp only [go_sem,seval,aI,hdi,hm];(with_reducible and_intros)<;>first|exact .dq|omega|skip
  refine aa.pure hA ?_;cases p1:bf r qs[i].inst
  ·simp only [p1,Bool.false_and,ir,if_false] at hs;simp only [go_sem,seval,aI,p1,hwi];(with_reducible and_intros)<;>first|exact .dq|omega|skip
   refine ah.step () hi trivial ?_;simp only [go_sem,seval,hs]
  cases p2:qs[i].who==w
  ·simp only [p1,p2,Bool.false_and,Bool.true_and,ir,if_false] at hs;simp only [go_sem,seval,aI,hm,p1,p2,hwi];(with_reducible and_intros)<;>first|exact .dq|omega|skip
   refine ah.step () hi trivial ?_;simp only [go_sem,seval,hs]
  cases p3:x.cur==c
  ·simp only [p1,p2,p3,Bool.and_false,Bool.true_and,ir,if_false] at hs;simp only [go_sem,seval,aI,hm,p1,p2,p3,hwi];(with_reducible and_intros)<;>first|exact .dq|omega|skip
   refine ah.step () hi trivial ?_;simp only [go_sem,seval,hs]
  simp only [p1,p2,p3,Bool.and_self,if_true] at hs;have hk:=hxok p1;obtain ⟨-,g1,g2⟩:=nQ hk;simp only [x9,cg,Bool.not_eq_true',decide_eq_false_iff_not] at hqty;have w1:IntKind.wrap .i64 (0-qs[i].aX) = -qs[i].aX:=by rw [bz (by omega) (by omega)];omega
  have ht:=lq (max qs[i].aX (-qs[i].aX)) x.add ⟨by omega,by omega⟩ ⟨by omega,by omega⟩;have hF:max qs[i].aX (-qs[i].aX)*x.add=J4 ⟨x,qs[i].aX⟩:=rfl;rw [hF] at ht;simp only [wd] at ht;simp only [go_sem,seval,aI,hm,p1,p2,p3,hwi,w1];(with_reducible and_intros)<;>first|exact .dq|omega|skip
  refine aa.pure ht ?_;simp only [go_sem,seval,hwi];(with_reducible and_intros)<;>first|exact .dq|omega|skip
  refine ah.step () hi trivial ?_;simp only [go_sem,seval,hs]<;>simp [wd,qz]
 ·intro _ hdx _
  have hb:∀ n∈M :: (mV r w c qs).map J4,-1208925819614629174706176<=n/\n<=1208925819614629174706176:=by
   intro n hn;rcases List.mem_cons.1 hn with rfl | hn
   ·omega
   ·obtain ⟨p,hp,rfl⟩:=List.mem_map.1 hn;exact Lk (hpo p hp)
  have hs:=jO (M :: (mV r w c qs).map J4) (by simp;omega) (fun n hn=>yy (hb n hn) (by omega));have h2:=vw (B:=1208925819614629174706176) hb;rw [<- hT] at hs h2;simp only [List.length_cons,aI] at h2;have hin2:xJ T=true:=yy (B:=1208925819614629174706176*(((mV r w c qs).length+1:Nat):Int)) h2 (by omega);have hI2:=jR T;rw [hin2,if_pos rfl] at hs;simp only [wd] at hs hI2;simp only [go_sem,seval,aI,hdx,List.take_length];refine aa.gen [] [] true (by simp) ?_;simp only [go_sem,seval];refine bg.intro hs ?_;simp only [go_sem,seval];refine aa.pure hI2 ?_;cases hi:bS T<;>simp only [go_sem,seval,hi]<;>simp
theorem Spec.frozen {P:Program} {f:FuncId} {ds hs':List D} {d:D} (h:Abs.Spec P f [] ds hs' d) (fz:List Nat) {hs2:List D} {d2:D} (hd:(fE fz (td [(0,d)] (qO 0 hs'))).t 0=d2) (ho:∀ r,(fE fz (td [(0,d)] (qO 0 hs'))).o r=hs2.getD r .undef):Abs.Spec P f [] ds hs2 d2:=by
 refine ⟨h.1,?_⟩;intro w l0 G0 own0 S0 vs hT hl0 hG hsz hr hobj;refine (h.2 w l0 G0 own0 S0 vs hT hl0 hG hsz hr hobj).mono ?_
 rintro e w' ⟨v,rfl,o⟩
 refine ⟨v,rfl,o.os,o.tape,o.output,o.size,o.old,o.part,?_⟩;obtain ⟨lev,own,S,h1,h2,h3,h4,_⟩:=o.rep
 have hi:Inv w l0 G0 S w' lev own S (td [(0,d)] (qO 0 hs')) (fun j=>if j=0 then v else Go.undef):=by
  refine ⟨⟨o.os,hT⟩,o.tape,o.output,o.size,o.old,o.part,h1,h2,fun _ _ _=>rfl,?_,?_⟩
  ·intro s
   show aE _ _ (Abs.look [(0,d)] s)
   by_cases hs:s=0
   ·subst hs;simpa [Abs.look] using h3
   ·simp only [Abs.look,if_neg hs];exact .undef _
  ·intro r
   show jZ _ _ _ _ _ _ r (Abs.look (qO 0 hs') r)
   rw [nY];simpa using h4 r
 obtain ⟨lev',S',hi'⟩:=Inv.PK fz hi (fun _ _=>trivial);refine ⟨lev',own,S',hi'.priv,hi'.iy,?_,?_,fun i h=>by cases h⟩
 ·have:=hi'.kX 0;rw [hd] at this;simpa using this
 ·intro r;have:=hi'.objs r
  rwa [ho] at this
def aq.gZ (r:aq):Prop:=r.ms.length < 2 ^ 30/\r.ns.length < 2 ^ 30/\r.xs.length < 2 ^ 30
theorem aq.gZ.small {r:aq} (h:r.gZ):r.small:=⟨by have:=h.1;omega,by have:=h.2.1;omega,by have:=h.2.2;omega⟩
theorem l6 (r:aq) (hr:r.gZ):Abs.Spec Tryz.prog 94 [] [.agg r.cells] [.own 3 (r.ms.map ak.cells),.own 12 (r.ns.map ay.cells),.own 4 (r.xs.map av.cells)] (.agg [.ref 0,.ref 1,.ref 2]):=by
 obtain ⟨l1,l2,l3⟩:=hr;simp only [aq.cells];refine aU 23 1 [.cell 2 29] mixed Tryz.func94 ?_;simp only [go_sem,seval,aI];omega
theorem pF (b:aG) (hb:b.small):Abs.Spec Tryz.prog 95 [] [.agg b.cells] [.own 7 (b.ts.map aL.cells),.own 4 (b.qs.map aA.cells)] (.agg [.int .i64 b.next,.ref 0,.ref 1]):=by
 obtain ⟨l1,l2⟩:=hb;simp only [aG.cells];refine aU 20 1 [.cell 2 33] mixed Tryz.func95 ?_;simp only [go_sem,seval,aI];omega
theorem Gy (l:bn) (hl:l.bs.length < 2 ^ 30):Abs.Spec Tryz.prog 96 [] [.agg l.cells] [.own 4 (l.bs.map bJ.cells)] (.agg [.int .i64 l.last,.ref 0]):=by
 simp only [bn.cells];refine aU 14 1 [.cell 2 36] mixed Tryz.func96 ?_;simp only [go_sem,seval,aI];omega
theorem Ba (x:aW) (h:x.fits):Abs.Spec Tryz.prog 29 [] [.agg x.cells] [.own 3 (x.Aa.map aN.cells),.own 8 (x.falls.map ck.cells)] (.agg [.int .i64 x.code,.int .i64 x.no,.int .i64 x.bX,.ref 0,.ref 1]):=by
 obtain ⟨h1,h2⟩:=h;simp only [aW.cells];refine aU 24 1 [.cell 2 66] mixed Tryz.func29 ?_;simp only [go_sem,seval,aI];omega
theorem lE (x:aW) (h:x.fits):Abs.Spec Tryz.prog 29 [] [.agg x.cells] [] (.agg x.cells):=by
 refine Spec.frozen (Ba x h) [0,1] ?_ ?_
 ·simp only [aW.cells];rfl
 ·intro r;rcases r with _ | _ | r
  ·rfl
  ·rfl
  ·rfl
structure af.small (s:af):Prop where
 aj:s.aj.gZ
 book:s.book.small
 bE:s.bE.bs.length < 2 ^ 30
 ps:s.ps.length < 2 ^ 30
 calls:s.calls.length < 2 ^ 30
 aT:s.aT.length < 2 ^ 30
 aM:s.aM.length < 2 ^ 30
 rs:∀ x∈s.aM,x.r.fits
def Bm (s:af):List D:=[.int .i64 s.now,.int .i64 s.day,.int .i64 s.phase,.ref 0,.ref 1,.ref 2,.int .i64 s.book.next,.ref 3,.ref 4,.int .i64 s.bE.last,.ref 5,.ref 6,.ref 7,.ref 8,.ref 9]
def JV (s:af):List D:=[.own 3 (s.aj.ms.map ak.cells),.own 12 (s.aj.ns.map ay.cells),.own 4 (s.aj.xs.map av.cells),.own 7 (s.book.ts.map aL.cells),.own 4 (s.book.qs.map aA.cells),.own 4 (s.bE.bs.map bJ.cells),.own 3 (pl s.ps),.own 4 (s.calls.map au.cells),.own 5 (s.aT.map bp.cells),.own 7 (s.aM.map bu.cells)]
theorem nS (s:af) (hs:s.small):Abs.Spec Tryz.prog 27 [] [.agg s.cells] (JV s) (.agg (Bm s)):=by
 have h1:=l6 s.aj hs.aj;have h2:=pF s.book hs.book;have h3:=Gy s.bE hs.bE;have e1:=hs.ps;have e2:=hs.calls;have e3:=hs.aT;have e4:=hs.aM;simp only [aq.cells] at h1;simp only [aG.cells] at h2;simp only [bn.cells] at h3;simp only [af.cells,JV,Bm];refine aU 68 1 [.cell 2 42] mixed Tryz.func27 ?_;simp only [go_sem,seval];(with_reducible and_intros)<;>first|exact .dq|omega|skip
 refine aa.gen [] [] false (by simp) ?_;simp only [go_sem,seval];refine bg.intro h1 ?_;simp only [go_sem,seval];(with_reducible and_intros)<;>first|exact .dq|omega|skip
 refine aa.gen [] [] false (by simp) ?_;simp only [go_sem,seval];refine bg.intro h2 ?_;simp only [go_sem,seval];(with_reducible and_intros)<;>first|exact .dq|omega|skip
 refine aa.gen [] [] false (by simp) ?_;simp only [go_sem,seval];refine bg.intro h3 ?_;simp only [go_sem,seval,aI];(with_reducible and_intros)<;>first|exact .dq|omega|skip
 refine aB.walk (S:=Unit) s.aM.length [1,2,3] [32,48,160,161,162,208,209,256,352,448,544] (fun i _=>[(4,.int .i64 i)])
  (fun i _=>[(64,.box [.int .i64 s.now,.int .i64 s.day,.int .i64 s.phase,.ref 160,.ref 161,.ref 162,.int .i64 s.book.next,.ref 208,.ref 209,.int .i64 s.bE.last,.ref 256,.ref 352,.ref 448,.ref 544,.ref 1056]),(1056,.own 7 ((s.aM.take i).map bu.cells))]) (fun _ _=>True) () trivial ?_ ?_ ?_
 ·simp only [go_sem,seval]<;>simp
 ·intro i _ hi hdi hwi _;have hm:=aD (c:=bu.cells) s.aM hi;have hr:=lE s.aM[i].r (hs.rs _ (List.getElem_mem hi))
  have hnext:(s.aM.take (i+1)).map bu.cells=(s.aM.take i).map bu.cells++[s.aM[i].cells]:=by
   rw [List.take_succ_eq_append_getElem hi,List.map_append,List.map_cons,List.map_nil]
  have hlt:((s.aM.take i).map bu.cells).length=i:=by simp;omega
  simp only [bu.cells] at hm;simp only [aW.cells] at hr;simp only [go_sem,seval,hdi,hm,aI];(with_reducible and_intros)<;>first|exact .dq|omega|skip
  refine aa.pure hr ?_;simp only [go_sem,seval,hwi,hlt];(with_reducible and_intros)<;>first|exact .dq|omega|skip
  refine ah.step () hi trivial ?_;simp only [go_sem,seval,hnext,bu.cells]
 ·intro _ hdx _;have ht:(s.aM.take s.aM.length).map bu.cells=s.aM.map bu.cells:=by rw [List.take_length]
  simp only [go_sem,seval,hdx,aI,ht]
def aJ.same (x y:aJ):Bool:=x.kind==y.kind&&(x.who==y.who&&x.cur==y.cur)
theorem Ei (x y:aJ):Abs.Spec Tryz.prog 66 [] [.agg x.cells,.agg y.cells] [] (.bool (x.same y)):=by
 simp only [aJ.cells];refine aU 24 2 [.tmp 4] mixed Tryz.func66 ?_;simp only [go_sem,seval]
 repeat' with_reducible first|apply And.intro|exact .dq|refine aa.pure (by assumption) ?_|refine .aH (fun h=>?_) fun h=>?_|refine .aF (fun h=>?_) fun h=>?_|refine .aK (fun h=>?_) fun h=>?_|refine .split (fun h=>?_) fun h=>?_|refine .id ?_|refine ah.next (by omega) ?_ ?_|exact trivial|simp only [*,go_sem,seval]
 all_goals (simp_all [aJ.same])
theorem mE {x y:aJ}:x.less y=true ↔ x.kind < y.kind\/(x.kind=y.kind/\(x.who < y.who\/(x.who=y.who/\x.cur < y.cur))):=by
 unfold aJ.less;split
 ·simp;omega
 ·split<;>simp<;>omega
theorem P1 {x y:aJ}:x.same y=true ↔ x.kind=y.kind/\x.who=y.who/\x.cur=y.cur:=by simp [aJ.same]
theorem Jg {bs:List bJ} (h:jY bs=true):bs.Pairwise (fun x y=>x.bK.less y.bK=true):=by
 rw [List.pairwise_iff_getElem]
 have step:∀ k (hk:k+1 < bs.length),bs[k].bK.less bs[k+1].bK=true:=fun k hk=>by
  have:=List.all_eq_true.1 h (k+1) (List.mem_range.2 hk);rw [iN hk,cg] at this;exact this.2
 have key:∀ d k (hk:k+d+1 < bs.length),bs[k].bK.less bs[k+d+1].bK=true:=by
  intro d
  induction d with
  | zero=>intro k hk;exact step k hk
  | succ d ih =>
   intro k hk;have h1:=mE.1 (ih k (by omega));have h2:=mE.1 (step (k+d+1) hk);have h3:bs[k].bK.less bs[k+d+1+1].bK=true:=mE.2 (by omega);exact h3
 intro i j hi hj hij;have:=key (j-i-1) i (by omega);have e:i+(j-i-1)+1=j:=by omega
 simpa only [e] using this
theorem aaX {l:bn} {r:aq} {ps:List eW} {w c:Int} (h:H7 l r ps w c=0):r.okB=true/\jo r w c ps=0/\Ig l r ps w c=gG ⟨2,w,c⟩ l.bs+SQ r w c ps/\bS (Ig l r ps w c)=true:=by
 have h0:vD l r ps=0:=by
  by_cases hb:(vD l r ps != 0)=true
  ·simp only [H7,hb,if_true] at h;exact h
  ·simpa using hb
 have hb0:(vD l r ps != 0)=false:=by simp [h0]
 have hr:r.okB=true:=by
  unfold vD at h0;split at h0
  ·rename_i hh;simp only [cg] at hh;exact hh.1.2
  ·cases h0
 have h1:jo r w c ps=0:=by
  by_cases hb:(jo r w c ps != 0)=true
  ·simp only [H7,hb0,hb,if_true,ir,if_false] at h;exact h
  ·simpa using hb
 have hb1:(jo r w c ps != 0)=false:=by simp [h1]
 simp only [H7,hb0,hb1,ir,if_false] at h
 have hs:right (gG ⟨2,w,c⟩ l.bs :: iL r w c ps)=true/\bS (aC (gG ⟨2,w,c⟩ l.bs :: iL r w c ps))=true:=by
  unfold qU at h;split at h
  ·rename_i hh;split at h
   ·rename_i hi;exact ⟨hh,hi⟩
   ·cases h
  ·cases h
 have hN:Ig l r ps w c=aC (gG ⟨2,w,c⟩ l.bs :: iL r w c ps):=by
  simp [Ig,hb0,hb1,qC,hs.1,hs.2]
 refine ⟨hr,h1,?_,by rw [hN];exact hs.2⟩;rw [hN];simp only [aC,Nu]
def UF (s:af) (w c:Int):Int:=
 if H7 s.bE s.aj s.ps w c=0 then (if s.book.okB then (if Bq s.aj w c s.book.qs=0 then (if zV s.aj w c s.book.qs<=Ig s.bE s.aj s.ps w c then 0 else Un (zV s.aj w c s.book.qs) (Ig s.bE s.aj s.ps w c)) else Bq s.aj w c s.book.qs) else 14) else H7 s.bE s.aj s.ps w c
def Rm (s:af) (w c:Int):Int:=
 if H7 s.bE s.aj s.ps w c=0 then (if s.book.okB then (if Bq s.aj w c s.book.qs=0 then (if zV s.aj w c s.book.qs<=Ig s.bE s.aj s.ps w c then 0 else Ut (zV s.aj w c s.book.qs) (Ig s.bE s.aj s.ps w c)) else 0) else 0) else 0
structure af.fit (s:af):Prop where
 aj:s.aj.small
 book:s.book.small
 bE:s.bE.bs.length < 2 ^ 30
 ps:s.ps.length < 2 ^ 30
theorem L1 (r:aq) (w c:Int) (qs:List aA):bS (zV r w c qs)=true:=by
 unfold zV;split
 ·split
  ·assumption
  ·decide
 ·decide
theorem V2 {l:bn} (h:l.okB=true):jY l.bs=true/\∀ z∈l.bs,bS z.sum=true:=by
 simp only [bn.okB,cg] at h;refine ⟨h.1.2,fun z hz=>?_⟩;obtain ⟨i,hi,rfl⟩:=List.mem_iff_getElem.1 hz;have:=List.all_eq_true.1 h.1.2 i (List.mem_range.2 hi)
 have hk:kB l.bs[i]=true:=by
  rcases Nat.eq_zero_or_pos i with rfl | hp
  ·rwa [jD hi] at this
  ·obtain ⟨j,rfl⟩:∃ j,i=j+1:=⟨i-1,by omega⟩
   rw [iN hi,cg] at this;exact this.1
 simp only [kB,cg] at hk;exact hk.2.1
theorem MK {l:List Int} (h:∀ n∈l,fy n) (hl:l.length < 2 ^ 58):(∀ n∈l,xJ n=true)/\xJ (aC l)=true:=by
 have h1:∀ n∈l,-9223372036854775808<=n/\n<=9223372036854775808:=fun n hn=>by have:=h n hn;exact ⟨this.1,by have:=this.2;omega⟩
 refine ⟨fun n hn=>yy (h1 n hn) (by omega),?_⟩;exact yy (B:=9223372036854775808*(l.length:Int)) (vw h1) (by omega)
def addN (l:List Int):Int:=if bS (aC l) then aC l else 0
theorem cu (l:List Int) (h:∀ n∈l,fy n) (hl:l.length < 2 ^ 30):Abs.Spec Tryz.prog 228 [] [.sl 1 (ints l)] [] (.bD [.int .i64 (addN l),.bool (bS (aC l))]):=by
 obtain ⟨h1,h2⟩:=MK h (by omega);have hs:=jO l (by omega) h1;have hI:=jR (aC l);rw [h2,if_pos rfl] at hs;simp only [wd] at hs hI;refine aU 33 1 [.tmp 2,.tmp 3] mixed Tryz.func228 ?_;simp only [go_sem,seval,az];refine aB.walk (S:=Unit) l.length [0] [] (fun i _=>[(5,.int .i64 i),(4,.ref 352)]) (fun i _=>[(352,.own 2 (qz (l.take i)))]) (fun _ _=>True) () trivial ?_ ?_ ?_
 ·simp only [go_sem,seval]<;>simp [qz]
 ·intro i _ hi hdi hwi _;have hO:=rq l[i] (h _ (List.getElem_mem hi));have hnext:qz (l.take (i+1))=qz (l.take i)++[wd l[i]]:=by rw [List.take_succ_eq_append_getElem hi];simp only [qz,List.map_append,List.map_cons,List.map_nil]
  have hlen:(qz (l.take i)).length=i:=by simp [qz];omega
  simp only [wd] at hO;simp only [go_sem,seval,az,hdi,ints_at l hi];(with_reducible and_intros)<;>first|exact .dq|omega|skip
  refine aa.pure hO ?_;simp only [go_sem,seval,hwi,hlen];(with_reducible and_intros)<;>first|exact .dq|omega|skip
  refine ah.step () hi trivial ?_;simp only [go_sem,seval,hnext]<;>simp [wd]
 ·intro _ hdx _;simp only [go_sem,seval,az,hdx,List.take_length];refine aa.gen [] [] true (by simp) ?_;simp only [go_sem,seval];refine bg.intro hs ?_;simp only [go_sem,seval];refine aa.pure hI ?_;simp only [go_sem,seval,addN]
theorem fL (x:aJ):Abs.Spec Tryz.prog 90 [] [.agg x.cells] [] (.bool x.right):=by
 simp only [aJ.cells];refine aU 40 1 [.tmp 2] mixed Tryz.func90 ?_;simp only [go_sem,seval]
 repeat' with_reducible first|apply And.intro|exact .dq|refine aa.pure (by assumption) ?_|refine .aH (fun h=>?_) fun h=>?_|refine .aF (fun h=>?_) fun h=>?_|refine .aK (fun h=>?_) fun h=>?_|refine .split (fun h=>?_) fun h=>?_|refine .id ?_|refine ah.next (by omega) ?_ ?_|exact trivial|simp only [*,go_sem,seval]
 all_goals (try simp only [decide_eq_true_eq,decide_eq_false_iff_not] at *)
 all_goals (unfold aJ.right;simp_all [owned];try (intros;omega))
theorem tB (x:aJ):Abs.Spec Tryz.prog 229 [] [.agg x.cells] [] (.int .i64 x.floor):=by
 have hr:=fL x;simp only [aJ.cells] at hr |-;refine aU 15 1 [.tmp 2] mixed Tryz.func229 ?_;simp only [go_sem,seval]
 repeat' with_reducible first|apply And.intro|exact .dq|refine aa.pure (by assumption) ?_|refine aa.pure (hr) ?_|refine .aH (fun h=>?_) fun h=>?_|refine .aF (fun h=>?_) fun h=>?_|refine .aK (fun h=>?_) fun h=>?_|refine .split (fun h=>?_) fun h=>?_|refine .id ?_|refine ah.next (by omega) ?_ ?_|exact trivial|simp only [*,go_sem,seval]
 all_goals (unfold aJ.floor;simp [*])
theorem D7 (x y:aJ):Abs.Spec Tryz.prog 266 [] [.agg x.cells,.agg y.cells] [] (.bool (x.less y)):=by
 simp only [aJ.cells];refine aU 30 2 [.tmp 4] mixed Tryz.func266 ?_;simp only [go_sem,seval]
 repeat' with_reducible first|apply And.intro|exact .dq|refine aa.pure (by assumption) ?_|refine .aH (fun h=>?_) fun h=>?_|refine .aF (fun h=>?_) fun h=>?_|refine .aK (fun h=>?_) fun h=>?_|refine .split (fun h=>?_) fun h=>?_|refine .id ?_|refine ah.next (by omega) ?_ ?_|exact trivial|simp only [*,go_sem,seval]
 all_goals (unfold aJ.less;simp_all)
theorem o9 (x y:aJ):Abs.Spec Tryz.prog 193 [] [.agg x.cells,.agg y.cells] [] (.bool (x.same y)):=by
 simp only [aJ.cells];refine aU 24 2 [.tmp 4] mixed Tryz.func193 ?_;simp only [go_sem,seval]
 repeat' with_reducible first|apply And.intro|exact .dq|refine aa.pure (by assumption) ?_|refine .aH (fun h=>?_) fun h=>?_|refine .aF (fun h=>?_) fun h=>?_|refine .aK (fun h=>?_) fun h=>?_|refine .split (fun h=>?_) fun h=>?_|refine .id ?_|refine ah.next (by omega) ?_ ?_|exact trivial|simp only [*,go_sem,seval]
 all_goals (simp_all [aJ.same])
theorem jQ (l:bn) (a:aJ) (hl:l.bs.length < 2 ^ 30):Abs.Spec Tryz.prog 91 [] [.agg l.cells,.agg a.cells] [] (.int .i64 (gG a l.bs)):=by
 simp only [bn.cells,aJ.cells];refine aU 27 2 [.tmp 4] mixed Tryz.func91 ?_;simp only [go_sem,seval,aI];refine aB.walk (S:=Unit) l.bs.length [2,3] [48,64] (fun i _=>[(5,.int .i64 i)]) (fun _ _=>[]) (fun i _=>gG a (l.bs.drop i)=gG a l.bs) () rfl ?_ ?_ ?_
 ·simp only [go_sem,seval]<;>simp
 ·intro i _ hi hdi hwi hI;have hm:=aD (c:=bJ.cells) l.bs hi;obtain ⟨z,hz⟩:=aO (l.bs[i]);have hS:=o9 z.bK a;have hlt:(i:Int) < (l.bs.length:Int):=by omega
  rw [dJ hi] at hI;rw [<- hz] at hm hI;simp only [gG] at hI;have e:V1 a z=z.bK.same a:=by simp [V1,aJ.same,bJ.bK]
  rw [e] at hI;simp only [aJ.cells,bJ.cells,bJ.bK] at hS hm;simp only [go_sem,seval,aI,hdi,hm];(with_reducible and_intros)<;>first|exact .dq|omega|skip
  refine aa.pure hS ?_;cases hb:aJ.same ⟨z.kind,z.who,z.cur⟩ a
  ·rw [show z.bK.same a=false from hb] at hI;simp only [ir,if_false] at hI;simp only [go_sem,seval,hwi];refine ah.step () hi hI ?_;simp only [go_sem,seval]
  ·rw [show z.bK.same a=true from hb,if_pos rfl] at hI;simp only [go_sem,seval,aI,hm,<- hI];(with_reducible and_intros)<;>first|exact .dq|omega|skip
 ·intro _ hdx hI;simp only [List.drop_length,gG] at hI;simp only [go_sem,seval,aI,hdx,<- hI]
def qg (ks:List Int) (k:Int):Bool:=ks.any (· == k)
def vq (c:Int) (ks:List Int) (bs:List bJ):List Int:=(bs.filter fun b=>qg ks b.kind&&b.cur==c).map bJ.sum
theorem N8 (c:Int) (ks:List Int) (bs:List bJ) {i:Nat} (h:i < bs.length):vq c ks (bs.take (i+1))=if qg ks bs[i].kind&&bs[i].cur==c then vq c ks (bs.take i)++[bs[i].sum] else vq c ks (bs.take i):=by
 simp only [vq];rw [List.take_succ_eq_append_getElem h,List.filter_append,List.map_append];cases hb:(qg ks bs[i].kind&&bs[i].cur==c)<;>simp [List.filter,hb]
theorem JB (c:Int) (ks:List Int) (bs:List bJ):(vq c ks bs).length<=bs.length:=by
 simp only [vq,aI];exact List.length_filter_le _ _
theorem PT {c:Int} {ks:List Int} {bs:List bJ} (h:∀ b∈bs,b.dz):∀ n∈vq c ks bs,fy n:=by
 intro n hn;simp only [vq,List.mem_map,List.mem_filter] at hn;obtain ⟨b,⟨hb,_⟩,rfl⟩:=hn;exact (h b hb).2.2.2
theorem xA (ks:List Int) (k:Int) {i:Nat} (h:i < ks.length):qg (ks.take (i+1)) k=(qg (ks.take i) k||ks[i]==k):=by
 simp only [qg];rw [List.take_succ_eq_append_getElem h,List.any_append];simp
theorem AO (l:bn) (c:Int) (ks:List Int) (hl:l.bs.length < 2 ^ 30) (hk:ks.length < 2 ^ 30) (hr:∀ b∈l.bs,b.dz):Abs.Spec Tryz.prog 267 [] [.agg l.cells,.int .i64 c,.sl 1 (ints ks)] [] (.bD [.int .i64 (addN (vq c ks l.bs)),.bool (bS (aC (vq c ks l.bs)))]):=by
 have htl:=JB c ks l.bs;have hA:=cu (vq c ks l.bs) (PT hr) (by omega);simp only [bn.cells];refine aU 65 3 [.tmp 6,.tmp 7] mixed Tryz.func267 ?_;simp only [go_sem,seval,aI,az];refine aB.walk (S:=Unit) l.bs.length [1,2,3] [64] (fun i _=>[(9,.int .i64 i),(8,.ref 976)]) (fun i _=>[(976,.own 1 (ints (vq c ks (l.bs.take i))))]) (fun _ _=>True) () trivial ?_ ?_ ?_
 ·simp only [go_sem,seval]<;>simp [vq,ints]
 ·intro i _ hi hdi hwi _;have hm:=aD (c:=bJ.cells) l.bs hi;have hs:=N8 c ks l.bs hi;have hlen:=JB c ks (l.bs.take i);have hlt:(l.bs.take i).length=i:=by simp;omega
  have hli:(i:Int) < (l.bs.length:Int):=by omega
  obtain ⟨z,hz⟩:=aO (l.bs[i]);rw [<- hz] at hm hs;simp only [bJ.cells] at hm;simp only [go_sem,seval,aI,hdi,az];refine aB.walk (S:=Unit) ks.length [1,2,3,8,9] [64,976] (fun k _=>[(11,.int .i64 k),(10,.bool (qg (ks.take k) z.kind))]) (fun _ _=>[]) (fun _ _=>True) () trivial ?_ ?_ ?_
  ·simp only [go_sem,seval]<;>simp [qg]
  ·intro k _ hk hdk hwk _;have hst:=xA ks z.kind hk;cases hb:qg (ks.take k) z.kind
   ·rw [hb,Bool.false_or] at hst;simp only [go_sem,seval,aI,az,hdk,ints_at ks hk,hm,hwk];(with_reducible and_intros)<;>first|exact .dq|omega|skip
    refine ah.step () hk trivial ?_;simp only [go_sem,seval,hst]
   ·rw [hb,Bool.true_or] at hst;simp only [go_sem,seval,aI,az,hdk,ints_at ks hk,hm,hwk];(with_reducible and_intros)<;>first|exact .dq|omega|skip
    refine ah.step () hk trivial ?_;simp only [go_sem,seval,hst]
  ·intro _ hdk _;cases b1:qg ks z.kind
   ·simp only [b1,Bool.false_and,ir,if_false] at hs;simp only [go_sem,seval,az,aI,hdk,List.take_length,b1,hwi];(with_reducible and_intros)<;>first|exact .dq|omega|skip
    refine ah.step () hi trivial ?_;simp only [go_sem,seval,hs]
   cases b2:z.cur==c
   ·simp only [b1,b2,Bool.and_false,ir,if_false] at hs;simp only [go_sem,seval,az,aI,hdk,List.take_length,b1,hm,b2,hwi];(with_reducible and_intros)<;>first|exact .dq|omega|skip
    refine ah.step () hi trivial ?_;simp only [go_sem,seval,hs]
   simp only [b1,b2,Bool.and_self,if_true] at hs;simp only [go_sem,seval,az,aI,hdk,List.take_length,b1,hm,b2,hwi];(with_reducible and_intros)<;>first|exact .dq|omega|skip
   refine ah.step () hi trivial ?_;simp only [go_sem,seval,hs]<;>simp [ints]
 ·intro _ hdx _;simp only [go_sem,seval,az,aI,hdx,List.take_length];refine aa.gen [] [] true (by simp) ?_;simp only [go_sem,seval];refine bg.intro hA ?_;simp only [go_sem,seval]
theorem Qu {bs:List bJ} {i:Nat} (hI:∀ j < i,mh bs j=true) (h0:mh bs i=true):∀ k < i+1,mh bs k=true:=fun k hk=>by
 rcases Nat.lt_or_ge k i with h | h
 ·exact hI k h
 ·obtain rfl:k=i:=by omega
  exact h0
theorem Mz {bs:List bJ} (h:jY bs=true) (c:Int):vq c [1,2,3,4,5,6] bs=gv c bs/\∀ n∈gv c bs,bS n=true:=by
 have hk:∀ b∈bs,kB b=true:=fun b hb=>by
  obtain ⟨i,hi,rfl⟩:=List.mem_iff_getElem.1 hb;have:=List.all_eq_true.1 h i (List.mem_range.2 hi);rcases Nat.eq_zero_or_pos i with rfl | hp
  ·rwa [jD hi] at this
  ·obtain ⟨j,rfl⟩:∃ j,i=j+1:=⟨i-1,by omega⟩
   rw [iN hi,cg] at this;exact this.1
 refine ⟨?_,fun n hn=>?_⟩
 ·unfold vq gv;congr 1;refine List.filter_congr fun b hb=>?_
  have:=hk b hb;simp only [kB,cg] at this;have h1:=this.1;unfold aJ.right at h1;split at h1
  ·cases h1
  ·rename_i h2;simp only [bJ.bK] at h2
   have e:qg [1,2,3,4,5,6] b.kind=true:=by
    simp only [qg,List.any_cons,List.any_nil,Bool.or_eq_true,beq_iff_eq];omega
   rw [e,Bool.true_and]
 ·simp only [gv,List.mem_map,List.mem_filter] at hn;obtain ⟨b,⟨hb,_⟩,rfl⟩:=hn;have:=hk b hb;simp only [kB,cg] at this;exact this.2.1
theorem Fe {l:List Int} (h:∀ n∈l,bS n=true):right l=true:=List.all_eq_true.2 h
theorem ig (l:bn) (hl:l.bs.length < 2 ^ 30) (hr:∀ b∈l.bs,b.dz):Abs.Spec Tryz.prog 225 [] [.agg l.cells] [] (.bool l.okB):=by
 have hT:=fun c=>AO l c [1,2,3,4,5,6] hl (by simp) hr
 simp only [bn.cells,ints,List.map_cons,List.map_nil] at hT |-;refine aU 80 1 [.tmp 2] mixed Tryz.func225 ?_;rcases Int.lt_or_le l.last 0 with h0 | h0
 ·have d0:decide (l.last < 0)=true:=by simpa using h0
  have e:l.okB=false:=by simp [bn.okB];omega
  simp only [go_sem,seval,d0,e]
 have d0:decide (l.last < 0)=false:=by simpa using h0
 simp only [go_sem,seval,d0,aI];refine aB.count l.bs.length [1] [32] (fun i=>[(3,.int .i64 i)]) (fun i=>[]) (fun i=>∀ j < i,mh l.bs j=true) (by simp) ?_ ?_
 ·simp only [go_sem,seval]<;>simp
 intro i hi hI;simp only [go_sem,seval,aI];refine bH.aF (fun h=>?_) (fun h=>?_)
 ·have hi':i < l.bs.length:=by omega
  have hw:IntKind.wrap .i64 ((i:Int)+1)=((i+1:Nat):Int):=by rw [bz (by omega) (by omega)];omega
  have hm:=aD (c:=bJ.cells) l.bs hi';have h1:=fL l.bs[i].bK;have h2:=cY l.bs[i].sum;have h3:=tB l.bs[i].bK;have e0:=Qu (i:=i) hI;have e1:mh l.bs i=false->l.okB=false:=fun hx=>by simp [bn.okB,wA hi' hx]
  simp only [bJ.cells,aJ.cells,bJ.bK] at hm h1 h3;clear hT;rcases Nat.eq_zero_or_pos i with rfl | hpos
  ·have hk:=jD hi';simp only [kB,bJ.bK] at hk;simp only [go_sem,seval,hm,aI]
   repeat' with_reducible first|apply And.intro|exact .dq|refine aa.pure (by assumption) ?_|refine aa.pure (h1) ?_|refine aa.pure (h2) ?_|refine aa.pure (h3) ?_|refine .aH (fun h=>?_) fun h=>?_|refine .aF (fun h=>?_) fun h=>?_|refine .aK (fun h=>?_) fun h=>?_|refine .split (fun h=>?_) fun h=>?_|refine .id ?_|refine ah.next (by omega) ?_ ?_|exact trivial|simp only [*,go_sem,seval]
   all_goals first
    | omega
    | rfl
    | (refine e0 ?_;clear e0 e1;rw [hk];clear hk;simp [bne, *];done)
    | (rw [e1 ?_];clear e0 e1;rw [hk];clear hk;simp [bne, *];done)
  ·obtain ⟨j,rfl⟩:∃ j,i=j+1:=⟨i-1,by omega⟩
   have hj:j < l.bs.length:=by omega
   have hw1:IntKind.wrap .i64 (((j+1:Nat):Int)-1)=(j:Int):=by rw [bz (by omega) (by omega)];omega
   have hk:=iN hi';simp only [kB,bJ.bK] at hk;have hmj:=aD (c:=bJ.cells) l.bs hj;have h4:=D7 l.bs[j].bK l.bs[j+1].bK;simp only [bJ.cells,aJ.cells,bJ.bK] at hmj h4;simp only [go_sem,seval,hm,aI]
   repeat' with_reducible first|apply And.intro|exact .dq|refine aa.pure (by assumption) ?_|refine aa.pure (h1) ?_|refine aa.pure (h2) ?_|refine aa.pure (h3) ?_|refine aa.pure (h4) ?_|refine .aH (fun h=>?_) fun h=>?_|refine .aF (fun h=>?_) fun h=>?_|refine .aK (fun h=>?_) fun h=>?_|refine .split (fun h=>?_) fun h=>?_|refine .id ?_|refine ah.next (by omega) ?_ ?_|exact trivial|simp only [*,go_sem,seval,hmj,aI]
   all_goals first
    | omega
    | rfl
    | (refine e0 ?_;clear e0 e1;rw [hk];clear hk;simp [bne, *];done)
    | (rw [e1 ?_];clear e0 e1;rw [hk];clear hk;simp [bne, *];done)
 have hs:=pq (fun j (hj:j < l.bs.length)=>hI j (by omega))
 have hbal:∀ c:Int,jJ l.bs c=(bS (aC (gv c l.bs))&&addN (gv c l.bs)==0):=fun c=>by
  have:=(Mz hs c).2;simp only [jJ,qU,qC,addN,Fe this,if_true,Bool.true_and];cases bS (aC (gv c l.bs))<;>simp
 simp only [go_sem,seval];refine aB.walk (S:=Unit) 3 [1] [32] (fun i _=>[(5,.int .i64 i)]) (fun i _=>[]) (fun i _=>∀ c < i,jJ l.bs (c:Nat)=true) () (by simp) ?_ ?_ ?_
 ·simp only [go_sem,seval]<;>simp
 ·intro c _ hc hdc hwc hC;have hdc:decide ((c:Int) < 3)=true:=hdc;have hTc:=hT c;rw [(Mz hs c).1] at hTc;have hb:=hbal c
  have hbad:jJ l.bs c=false->l.okB=false:=fun hx=>by
   obtain rfl | rfl | rfl:c=0\/c=1\/c=2:=by omega
   ·have:jJ l.bs 0=false:=hx;simp [bn.okB,this]
   ·have:jJ l.bs 1=false:=hx;simp [bn.okB,this]
   ·have:jJ l.bs 2=false:=hx;simp [bn.okB,this]
  simp only [go_sem,seval,hdc];refine aa.gen [] [] true (by simp) ?_;simp only [go_sem,seval];refine bg.intro hTc ?_;cases b1:bS (aC (gv c l.bs))
  ·simp only [go_sem,seval,b1,hbad (by rw [hb,b1];rfl)]
  cases b2:addN (gv c l.bs)==0
  ·simp only [go_sem,seval,b1,bne,b2,hbad (by rw [hb,b1,b2];rfl)]
  simp only [go_sem,seval,b1,bne,b2,hwc];refine ah.step () hc ?_ ?_
  ·intro k hk;rcases Nat.lt_or_ge k c with h | h
   ·exact hC k h
   ·obtain rfl:k=c:=by omega
    rw [hb,b1,b2];rfl
  ·simp only [go_sem,seval]
 ·intro _ hdc hC;have hdc:decide ((3:Int) < 3)=false:=hdc;have b0:jJ l.bs 0=true:=hC 0 (by omega);have b1:jJ l.bs 1=true:=hC 1 (by omega);have b2:jJ l.bs 2=true:=hC 2 (by omega);have e:l.okB=true:=by simp [bn.okB,hs,b0,b1,b2,h0]
  simp only [go_sem,seval,hdc,e]
theorem oF (w n:Int):Abs.Spec Tryz.prog 92 [] [.agg [.int .i64 w,.int .i64 n]] [] (.bool (ot w n)):=by
 have h1:=fD w;have h2:=bk n 1 8;refine aU 11 1 [.tmp 2] mixed Tryz.func92 ?_;simp only [go_sem,seval]
 repeat' with_reducible first|apply And.intro|exact .dq|refine aa.pure (by assumption) ?_|refine aa.pure (h1) ?_|refine aa.pure (h2) ?_|refine .aH (fun h=>?_) fun h=>?_|refine .aF (fun h=>?_) fun h=>?_|refine .aK (fun h=>?_) fun h=>?_|refine .split (fun h=>?_) fun h=>?_|refine .id ?_|refine ah.next (by omega) ?_ ?_|exact trivial|simp only [*,go_sem,seval]
 all_goals (simp_all [ot])
theorem zP (a b c d:Int):Abs.Spec Tryz.prog 272 [] [.agg [.int .i64 a,.int .i64 b],.agg [.int .i64 c,.int .i64 d]] [] (.bool (DA a b c d)):=by
 refine aU 24 2 [.tmp 4] mixed Tryz.func272 ?_;simp only [go_sem,seval]
 repeat' with_reducible first|apply And.intro|exact .dq|refine aa.pure (by assumption) ?_|refine .aH (fun h=>?_) fun h=>?_|refine .aF (fun h=>?_) fun h=>?_|refine .aK (fun h=>?_) fun h=>?_|refine .split (fun h=>?_) fun h=>?_|refine .id ?_|refine ah.next (by omega) ?_ ?_|exact trivial|simp only [*,go_sem,seval]
 all_goals (simp only [DA];simp_all)
theorem pE (t:aL):Abs.Spec Tryz.prog 230 [] [.agg t.cells] [] (.bool (within t.aX 1 1048576&&within t.aR 1 1073741824)):=by
 have h1:=bk t.aX 1 1048576;have h2:=bk t.aR 1 1073741824;simp only [aL.cells];refine aU 11 1 [.tmp 2] mixed Tryz.func230 ?_;simp only [go_sem,seval]
 repeat' with_reducible first|apply And.intro|exact .dq|refine aa.pure (by assumption) ?_|refine aa.pure (h1) ?_|refine aa.pure (h2) ?_|refine .aH (fun h=>?_) fun h=>?_|refine .aF (fun h=>?_) fun h=>?_|refine .aK (fun h=>?_) fun h=>?_|refine .split (fun h=>?_) fun h=>?_|refine .id ?_|refine ah.next (by omega) ?_ ?_|exact trivial|simp only [*,go_sem,seval]
 all_goals (simp_all)
theorem rN (t:aL):Abs.Spec Tryz.prog 232 [] [.agg t.cells] [] (.bool t.okB):=by
 have h0:=pE t;have h1:=fD t.fZ;have h2:=fD t.dY;have h3:=bk t.inst 1 8;simp only [aL.cells] at h0 |-;refine aU 27 1 [.tmp 2] mixed Tryz.func232 ?_;simp only [go_sem,seval]
 repeat' with_reducible first|apply And.intro|exact .dq|refine aa.pure (by assumption) ?_|refine aa.pure (h0) ?_|refine aa.pure (h1) ?_|refine aa.pure (h2) ?_|refine aa.pure (h3) ?_|refine .aH (fun h=>?_) fun h=>?_|refine .aF (fun h=>?_) fun h=>?_|refine .aK (fun h=>?_) fun h=>?_|refine .split (fun h=>?_) fun h=>?_|refine .id ?_|refine ah.next (by omega) ?_ ?_|exact trivial|simp only [*,go_sem,seval]
 all_goals first
  | (simp_all [aL.okB,ot,bne];done)
  | (rw [Bool.eq_iff_iff];simp_all [aL.okB,ot,bne])
theorem Lr (a b:aL):eD a b = !decide (b.no<=a.no):=by
 rw [Bool.eq_iff_iff];simp [eD]
theorem NS {n:Int} {l:List aA} (h:∀ p∈l,p.dz):∀ q∈cq n l,fy q:=by
 intro q hq;simp only [cq,List.mem_map,List.mem_filter] at hq;obtain ⟨p,⟨hp,_⟩,rfl⟩:=hq;exact (h p hp).2.2.1
theorem LU {n:Int} {l:List aA} (h:lV aA.okB fQ l=true):kD n l=(bS (aC (cq n l))&&addN (cq n l)==0):=by
 have hr:right (cq n l)=true:=List.all_eq_true.2 fun q hq=>by
  simp only [cq,List.mem_map,List.mem_filter] at hq;obtain ⟨p,⟨hp,_⟩,rfl⟩:=hq;obtain ⟨i,hi,rfl⟩:=List.mem_iff_getElem.1 hp;have:=G9 h hi;simp only [aA.okB,within,cg,decide_eq_true_eq] at this;refine cR.2 ?_;omega
 simp only [kD,qU,qC,addN,hr,if_true,Bool.true_and];cases bS (aC (cq n l))<;>simp
theorem gX (b:aG) (hl:b.small) (hr:∀ p∈b.qs,p.dz):Abs.Spec Tryz.prog 231 [] [.agg b.cells] [] (.bool b.okB):=by
 obtain ⟨hl1,hl2⟩:=hl;have hA:=fun n=>cu (cq n b.qs) (NS hr) (by have:=tT n b.qs;omega)
 have hN:=bk b.next 0 1099511627776
 have hNe:within b.next 0 1099511627776=(!decide (b.next < 0)&&!decide (1099511627776 < b.next)):=by rw [Bool.eq_iff_iff];simp [within]
 simp only [aG.cells];refine aU 156 1 [.tmp 2] mixed Tryz.func231 ?_;simp only [go_sem,seval];refine aa.pure hN ?_;cases b1:within b.next 0 1099511627776
 ·rw [hNe] at b1;have e:b.okB=false:=by simp only [aG.okB,b1,Bool.and_false]
  simp only [go_sem,seval,e]
 cases b2:decide (128 < (b.ts.length:Int))
 case true =>
  have e:b.okB=false:=by simp [aG.okB,b2]
  simp only [go_sem,seval,aI,b2,e]
 have e:b.okB=(lV aA.okB fQ b.qs&&(lV (eR b.next) eD b.ts&&kZ b.qs)):=by
  rw [hNe] at b1;simp only [aG.okB,b1,b2,Bool.not_false,Bool.and_true]
 rw [e];clear e hN hNe;simp only [go_sem,seval,aI,b2];refine aB.count b.qs.length [1] [32] (fun i=>[(3,.int .i64 i)]) (fun i=>[]) (fun i=>∀ j < i,ke aA.okB fQ b.qs j=true) (by simp) ?_ ?_
 ·simp only [go_sem,seval]<;>simp
 intro i hi hI;simp only [go_sem,seval,aI];refine bH.aF (fun h=>?_) (fun h=>?_)
 ·have hi':i < b.qs.length:=by omega
  have hw:IntKind.wrap .i64 ((i:Int)+1)=((i+1:Nat):Int):=by rw [bz (by omega) (by omega)];omega
  have hm:=aD (c:=aA.cells) b.qs hi';have h1:=oF b.qs[i].who b.qs[i].inst;have h2:=cY b.qs[i].cost;have h3:=bk b.qs[i].aX (-1099511627776) 1099511627776;have e0:=nr (i:=i) hI;have e1:ke aA.okB fQ b.qs i=false->(lV aA.okB fQ b.qs&&(lV (eR b.next) eD b.ts&&kZ b.qs))=false:=fun hx=>by simp [qX hi' hx]
  simp only [aA.cells] at hm;clear hA;rcases Nat.eq_zero_or_pos i with rfl | hpos
  ·have hk:=gz (ok:=aA.okB) (lt:=fQ) hi';simp only [aA.okB] at hk;simp only [go_sem,seval,hm,aI]
   repeat' with_reducible first|apply And.intro|exact .dq|refine aa.pure (by assumption) ?_|refine aa.pure (h1) ?_|refine aa.pure (h2) ?_|refine aa.pure (h3) ?_|refine .aH (fun h=>?_) fun h=>?_|refine .aF (fun h=>?_) fun h=>?_|refine .aK (fun h=>?_) fun h=>?_|refine .split (fun h=>?_) fun h=>?_|refine .id ?_|refine ah.next (by omega) ?_ ?_|exact trivial|simp only [*,go_sem,seval]
   all_goals first
    | omega
    | rfl
    | (refine e0 ?_;clear e0 e1;rw [hk];clear hk;simp_all;done)
    | (rw [e1 ?_];clear e0 e1;rw [hk];clear hk;simp_all;done)
  ·obtain ⟨j,rfl⟩:∃ j,i=j+1:=⟨i-1,by omega⟩
   have hj:j < b.qs.length:=by omega
   have hw1:IntKind.wrap .i64 (((j+1:Nat):Int)-1)=(j:Int):=by rw [bz (by omega) (by omega)];omega
   have hk:=fT (ok:=aA.okB) (lt:=fQ) hi';simp only [aA.okB,fQ] at hk;have hmj:=aD (c:=aA.cells) b.qs hj;have h4:=zP b.qs[j].who b.qs[j].inst b.qs[j+1].who b.qs[j+1].inst;simp only [aA.cells] at hmj;simp only [go_sem,seval,hm,aI]
   repeat' with_reducible first|apply And.intro|exact .dq|refine aa.pure (by assumption) ?_|refine aa.pure (h1) ?_|refine aa.pure (h2) ?_|refine aa.pure (h3) ?_|refine aa.pure (h4) ?_|refine .aH (fun h=>?_) fun h=>?_|refine .aF (fun h=>?_) fun h=>?_|refine .aK (fun h=>?_) fun h=>?_|refine .split (fun h=>?_) fun h=>?_|refine .id ?_|refine ah.next (by omega) ?_ ?_|exact trivial|simp only [*,go_sem,seval,hmj,aI]
   all_goals first
    | omega
    | rfl
    | (refine e0 ?_;clear e0 e1;rw [hk];clear hk;simp_all;done)
    | (rw [e1 ?_];clear e0 e1;rw [hk];clear hk;simp_all;done)
 have hP:=lY (fun j (hj:j < b.qs.length)=>hI j (by omega));have hl1r:=fun n:Int=>LU (n:=n) hP
 rw [hP,Bool.true_and];clear hI;simp only [go_sem,seval];refine aB.walk (S:=Unit) 8 [1] [32] (fun i _=>[(5,.int .i64 ((i:Int)+1))]) (fun i _=>[]) (fun i _=>∀ j < i,kD ((j:Int)+1) b.qs=true) () (by simp) ?_ ?_ ?_
 ·simp only [go_sem,seval]<;>simp
 ·intro c _ hc _ _ hC;obtain ⟨n,hn⟩:=aO ((c:Int)+1);have hd:decide (n<=8)=true:=decide_eq_true (by omega);have hw:IntKind.wrap .i64 (n+1)=((c+1:Nat):Int)+1:=by rw [bz (by omega) (by omega)];omega
  rw [<- hn];simp only [go_sem,seval,hd,aI];refine aB.walk (S:=Unit) b.qs.length [1,5] [32] (fun i _=>[(7,.int .i64 i),(6,.ref 1696)]) (fun i _=>[(1696,.own 1 (ints (cq n (b.qs.take i))))]) (fun _ _=>True) () trivial ?_ ?_ ?_
  ·simp only [go_sem,seval]<;>simp [cq,ints]
  ·intro i _ hi hdi hwi _;have hm:=aD (c:=aA.cells) b.qs hi;have hs:=Cy n b.qs hi;have hlen:=tT n (b.qs.take i);have hlt:(b.qs.take i).length=i:=by simp;omega
   have hli:(i:Int) < (b.qs.length:Int):=by omega
   simp only [aA.cells] at hm;simp only [go_sem,seval,hdi,hm,aI];(with_reducible and_intros)<;>first|exact .dq|omega|skip
   cases hb:b.qs[i].inst==n
   ·simp only [hb,ir,if_false] at hs;simp only [go_sem,seval,hwi];refine ah.step () hi trivial ?_;simp only [go_sem,seval,hs]
   ·simp only [hb,if_true] at hs;simp only [go_sem,seval,hwi,az,aI,hm];(with_reducible and_intros)<;>first|exact .dq|omega|skip
    refine ah.step () hi trivial ?_;simp only [go_sem,seval,hs]<;>simp [ints]
  ·intro _ hdx _
   have hbad:kD n b.qs=false->kZ b.qs=false:=fun hx=>by
    cases hh:kZ b.qs
    ·rfl
    ·have:=List.all_eq_true.1 hh c (List.mem_range.2 hc);rw [<- hn,hx] at this;cases this
   have hr1:=hl1r n;simp only [go_sem,seval,hdx,aI,List.take_length];refine aa.gen [] [] true (by simp) ?_;simp only [go_sem,seval];refine bg.intro (hA n) ?_;cases b3:bS (aC (cq n b.qs))
   ·have:=hbad (by rw [hr1,b3];rfl);simp only [go_sem,seval,b3,this,Bool.and_false]
   cases b4:addN (cq n b.qs)==0
   ·have:=hbad (by rw [hr1,b3,b4];rfl);simp only [go_sem,seval,bne,b3,b4,this,Bool.and_false]
   simp only [go_sem,seval,bne,b3,b4,hw];refine ah.step () hc ?_ ?_
   ·intro j hj;rcases Nat.lt_or_ge j c with h | h
    ·exact hC j h
    ·obtain rfl:j=c:=by omega
     rw [<- hn,hr1,b3,b4];rfl
   ·simp only [go_sem,seval]
 ·intro _ _ hC;have hlv:kZ b.qs=true:=List.all_eq_true.2 fun j hj=>hC j (List.mem_range.1 hj)
  rw [hlv,Bool.and_true];clear hC hlv hl1r hA;simp only [go_sem,seval];refine aB.count b.ts.length [1] [32] (fun i=>[(10,.int .i64 i)]) (fun i=>[]) (fun i=>∀ j < i,ke (eR b.next) eD b.ts j=true) (by simp) ?_ ?_
  ·simp only [go_sem,seval]<;>simp
  intro i hi hI;simp only [go_sem,seval,aI];refine bH.aF (fun h=>?_) (fun h=>?_)
  ·have hi':i < b.ts.length:=by omega
   have hw:IntKind.wrap .i64 ((i:Int)+1)=((i+1:Nat):Int):=by rw [bz (by omega) (by omega)];omega
   have hm:=aD (c:=aL.cells) b.ts hi';have h1:=rN b.ts[i];have h2:=bk b.ts[i].no 1 b.next
   have e0:=nr (i:=i) hI;have e1:ke (eR b.next) eD b.ts i=false->lV (eR b.next) eD b.ts=false:=fun hx=>qX hi' hx
   have hte:eR b.next b.ts[i]=(b.ts[i].okB&&within b.ts[i].no 1 b.next):=by rw [Bool.eq_iff_iff];simp [eR,within]
   simp only [aL.cells] at hm h1;rcases Nat.eq_zero_or_pos i with rfl | hpos
   ·have hk:=gz (ok:=eR b.next) (lt:=eD) hi';rw [hte] at hk;clear hte;simp only [go_sem,seval,hm,aI]
    repeat' with_reducible first|apply And.intro|exact .dq|refine aa.pure (by assumption) ?_|refine aa.pure (h1) ?_|refine aa.pure (h2) ?_|refine .aH (fun h=>?_) fun h=>?_|refine .aF (fun h=>?_) fun h=>?_|refine .aK (fun h=>?_) fun h=>?_|refine .split (fun h=>?_) fun h=>?_|refine .id ?_|refine ah.next (by omega) ?_ ?_|exact trivial|simp only [*,go_sem,seval]
    all_goals first
     | omega
     | rfl
     | (refine e0 ?_;clear e0 e1;rw [hk];clear hk;simp_all;done)
     | (rw [e1 ?_];clear e0 e1;rw [hk];clear hk;simp_all;done)
   ·obtain ⟨j,rfl⟩:∃ j,i=j+1:=⟨i-1,by omega⟩
    have hj:j < b.ts.length:=by omega
    have hw1:IntKind.wrap .i64 (((j+1:Nat):Int)-1)=(j:Int):=by rw [bz (by omega) (by omega)];omega
    have hk:=fT (ok:=eR b.next) (lt:=eD) hi';rw [hte,Lr] at hk;clear hte;have hmj:=aD (c:=aL.cells) b.ts hj;simp only [aL.cells] at hmj;simp only [go_sem,seval,hm,aI]
    repeat' with_reducible first|apply And.intro|exact .dq|refine aa.pure (by assumption) ?_|refine aa.pure (h1) ?_|refine aa.pure (h2) ?_|refine .aH (fun h=>?_) fun h=>?_|refine .aF (fun h=>?_) fun h=>?_|refine .aK (fun h=>?_) fun h=>?_|refine .split (fun h=>?_) fun h=>?_|refine .id ?_|refine ah.next (by omega) ?_ ?_|exact trivial|simp only [*,go_sem,seval,hmj,aI]
    all_goals first
     | omega
     | rfl
     | (refine e0 ?_;clear e0 e1;rw [hk];clear hk;simp_all;done)
     | (refine e0 ?_;clear e0 e1;rw [hk];clear hk;simp_all;omega)
     | (rw [e1 ?_];clear e0 e1;rw [hk];clear hk;simp_all;done)
     | (rw [e1 ?_];clear e0 e1;rw [hk];clear hk;simp_all;omega)
  ·have hT:=lY (fun j (hj:j < b.ts.length)=>hI j (by omega));simp only [go_sem,seval,hT]
theorem kJ (r:aq) (n:Int) (hl:r.small):Abs.Spec Tryz.prog 159 [] [.agg r.cells,.int .i64 n] [] (.bD [.agg (fP av.a n ⟨0,0,0,0⟩ r.xs).cells,.bool (decide (0<=iG av.a n r.xs))]):=by
 obtain ⟨l1,l2,l3⟩:=hl;simp only [aq.cells];refine aU 28 2 [.cell 4 111,.tmp 5] mixed Tryz.func159 ?_;simp only [go_sem,seval,aI];refine aB.walk (S:=Unit) r.xs.length [1,2,4] [48,80] (fun i _=>[(6,.int .i64 i)]) (fun i _=>[]) (fun i _=>∀ j (hj:j < r.xs.length),j < i->r.xs[j].a≠n) () (by intros;omega) ?_ ?_ ?_
 ·simp only [go_sem,seval]<;>simp
 ·intro i _ hi hdi hw hI;have hm:=aD (c:=av.cells) r.xs hi;have hlt:(i:Int) < (r.xs.length:Int):=by omega
  simp only [av.cells] at hm |-;simp only [go_sem,seval,aI,hdi,hm];(with_reducible and_intros)<;>first|exact .dq|omega|skip
  cases hb:r.xs[i].a==n
  ·have hb2:r.xs[i].a≠n:=by simpa using hb
   simp only [go_sem,seval,hw];refine ah.step () hi ?_ ?_
   ·intro j hj hji;rcases Nat.lt_or_ge j i with h | h
    ·exact hI j hj h
    ·obtain rfl:j=i:=by omega
     exact hb2
   ·simp only [go_sem,seval]
  ·have hb2:r.xs[i].a=n:=by simpa using hb
   obtain ⟨g1,g2⟩:=iV (z:=(⟨0,0,0,0⟩:av)) hi hI hb2;have g3:decide (0<=(i:Int))=true:=decide_eq_true (by omega);rw [g1,g2,g3];simp only [go_sem,seval,hm,aI];(with_reducible and_intros)<;>first|exact .dq|omega|skip
 ·intro _ hdx hI;obtain ⟨g1,g2⟩:=gB (z:=(⟨0,0,0,0⟩:av)) (fun j hj=>hI j hj hj);rw [g1,g2];simp only [go_sem,seval,aI,hdx,av.cells]
theorem Nl {a:aJ} {bs:List bJ} (h:∀ b∈bs,b.dz):fy (gG a bs):=by
 induction bs with
 | nil=>exact ⟨by simp [gG],by simp [gG]⟩
 | cons b r ih =>
  simp only [gG];split
  ·exact (h b (by simp)).2.2.2
  ·exact ih fun b hb=>h b (by simp [hb])
theorem abX (a:av) (n:Int):bS (a.V n)=true:=by
 simp only [av.V];split
 ·unfold Sv;split
  ·decide
  ·split
   ·assumption
   ·decide
 ·decide
theorem Qq (r:aq) (w c:Int) (ps:List eW):∀ n∈iL r w c ps,bS n=true:=by
 intro n hn;simp only [iL,List.mem_map] at hn;obtain ⟨x,_,rfl⟩:=hn;exact abX _ _
theorem yG {l:bn} (h:l.okB=true) (a:aJ):bS (gG a l.bs)=true:=by
 have h1:=(V2 h).2;clear h;generalize l.bs=bs at h1
 induction bs with
 | nil=>rfl
 | cons b r ih =>
  simp only [gG];split
  ·exact h1 b (by simp)
  ·exact ih fun z hz=>h1 z (by simp [hz])
theorem n8 {n:Int} (h:bS n=true):fy n:=by have:=cR.1 h;exact ⟨by omega,by omega⟩
theorem En (l:bn) (r:aq) (ps:List eW) (w c:Int) (hl:l.bs.length < 2 ^ 29) (hr:r.small) (hp:ps.length < 2 ^ 29) (hb:∀ b∈l.bs,b.dz) :
  Abs.Spec Tryz.prog 245 [] [.agg l.cells,.agg r.cells,.sl 3 (pl ps),.int .i64 w,.int .i64 c] [] (.bD [.int .i64 (Ig l r ps w c),.int .i64 (H7 l r ps w c)]):=by
 have h1:=ig l (by omega) hb;have h2:=dK r hr;have h3:=mH ps (by omega);have h4:=jQ l ⟨2,w,c⟩ (by omega);have h5:=fun n=>kJ r n hr
 simp only [bn.cells,aJ.cells] at h1 h4 |-;simp only [aq.cells] at h2 h5 |-;refine aU 97 5 [.tmp 10,.tmp 11] mixed Tryz.func245 ?_;simp only [go_sem,seval];refine aa.pure h1 ?_;cases b1:l.okB
 ·have e:vD l r ps=14:=by simp [vD,b1]
  have e1:H7 l r ps w c=14:=by simp [H7,e]
  have e2:Ig l r ps w c=0:=by simp [Ig,e]
  simp only [go_sem,seval,e1,e2]
 simp only [go_sem,seval];refine aa.pure h2 ?_;cases b2:r.okB
 ·have e:vD l r ps=14:=by simp [vD,b2]
  have e1:H7 l r ps w c=14:=by simp [H7,e]
  have e2:Ig l r ps w c=0:=by simp [Ig,e]
  simp only [go_sem,seval,e1,e2]
 simp only [go_sem,seval];refine aa.pure h3 ?_;cases b3:gj ps
 ·have e:vD l r ps=14:=by simp [vD,b3]
  have e1:H7 l r ps w c=14:=by simp [H7,e]
  have e2:Ig l r ps w c=0:=by simp [Ig,e]
  simp only [go_sem,seval,e1,e2]
 have e:vD l r ps=0:=by simp [vD,b1,b2,b3]
 have e1:H7 l r ps w c=if jo r w c ps != 0 then jo r w c ps else qU (gG ⟨2,w,c⟩ l.bs :: iL r w c ps):=by simp [H7,e]
 have e2:Ig l r ps w c=if jo r w c ps != 0 then 0 else qC (gG ⟨2,w,c⟩ l.bs :: iL r w c ps):=by simp [Ig,e]
 rw [e1,e2];clear e1 e2 e;simp only [go_sem,seval];refine aa.pure h4 ?_;have hoin:=yG b1 ⟨2,w,c⟩;obtain ⟨o,ho⟩:=aO (gG ⟨2,w,c⟩ l.bs);rw [<- ho] at hoin |-;simp only [go_sem,seval];refine aB.walk (S:=Unit) ps.length [2,3,4,6] [112] (fun i _=>[(13,.int .i64 i),(12,.ref 1424)]) (fun i _=>[(1424,.own 1 (ints (o :: iL r w c (ps.take i))))]) (fun i _=>jo r w c (ps.drop i)=jo r w c ps) () rfl ?_ ?_ ?_
 ·simp only [go_sem,seval]<;>simp [iL,ints]
 ·intro i _ hi' hdi hw hI;have hstep:=Lv r w c ps hi';have hA:=h5 ps[i].bF;have hvl:=EY r w c (ps.take i);have htl:(ps.take i).length=i:=by simp;omega
  have hli:(i:Int) < (ps.length:Int):=by omega
  rw [MI hi'] at hI;simp only [jo] at hI;obtain ⟨a,ha⟩:=aO (Dh r ps[i]);have ha':fP av.a ps[i].bF ⟨0,0,0,0⟩ r.xs=a:=ha.symm;rw [ha'] at hA;simp only [Mo,<- ha] at hI hstep;have hv:=uL a ps[i].units;simp only [av.cells] at hA hv;clear h1 h2 h3 h4 h5;simp only [go_sem,seval,hdi,jX ps hi'];(with_reducible and_intros)<;>first|exact .dq|omega|skip
  refine aa.pure hA ?_;cases p1:decide (0<=iG av.a ps[i].bF r.xs)
  ·simp only [p1,Bool.false_and,ir,if_false] at hI hstep;simp only [go_sem,seval,p1,hw];(with_reducible and_intros)<;>first|exact .dq|omega|skip
   refine ah.step () hi' hI ?_;simp only [go_sem,seval,hstep]
  cases p2:ps[i].who==w
  ·simp only [p1,p2,Bool.false_and,Bool.true_and,ir,if_false] at hI hstep;simp only [go_sem,seval,p1,bne,p2,hw,jX ps hi'];(with_reducible and_intros)<;>first|exact .dq|omega|skip
   refine ah.step () hi' hI ?_;simp only [go_sem,seval,hstep]
  cases p3:a.b==c
  ·simp only [p1,p2,p3,Bool.false_and,Bool.and_false,Bool.true_and,ir,if_false] at hI hstep;simp only [go_sem,seval,p1,bne,p2,p3,hw,jX ps hi'];(with_reducible and_intros)<;>first|exact .dq|omega|skip
   refine ah.step () hi' hI ?_;simp only [go_sem,seval,hstep]
  simp only [p1,p2,p3,Bool.true_and,Bool.and_self,if_true] at hI hstep;simp only [go_sem,seval,p1,bne,p2,p3,jX ps hi'];(with_reducible and_intros)<;>first|exact .dq|omega|skip
  refine aa.pure hv ?_;cases p4:a.E ps[i].units==0
  ·have p4':(a.E ps[i].units != 0)=true:=by simp [bne,p4]
   simp only [p4',if_true] at hI;have hF:jo r w c ps=a.E ps[i].units:=hI.symm;simp only [go_sem,seval,bne,p4,hF,Bool.not_false,if_true]
  ·have p4':(a.E ps[i].units != 0)=false:=by simp [bne,p4]
   simp only [p4',ir,if_false] at hI;simp only [go_sem,seval,bne,p4,hw,az];(with_reducible and_intros)<;>first|exact .dq|omega|skip
   refine ah.step () hi' hI ?_;simp only [go_sem,seval,hstep]<;>simp [ints]
 ·intro _ hdx hI;simp only [List.drop_length,jo] at hI;have hlen:=EY r w c ps
  have hall:∀ n∈o :: iL r w c ps,bS n=true:=fun n hn=>by
   rcases List.mem_cons.1 hn with rfl | hn
   ·exact hoin
   ·exact Qq r w c ps n hn
  have hs:=cu (o :: iL r w c ps) (fun n hn=>n8 (hall n hn)) (by simp;omega);have hright:=Fe hall;rw [<- hI];simp only [qU,qC,hright,if_true,Bool.true_and];simp only [go_sem,seval,hdx,List.take_length];refine aa.gen [] [] true (by simp) ?_;simp only [go_sem,seval];refine bg.intro hs ?_;cases hin:bS (aC (o :: iL r w c ps))
  ·simp only [go_sem,seval,hin]<;>simp
  ·simp only [go_sem,seval,hin,addN]<;>simp
theorem uE (s:af) (w c:Int) (hs:s.fit) (hr:s.dz) (hl:s.bE.bs.length < 2 ^ 29) (hp:s.ps.length < 2 ^ 29):Abs.Spec Tryz.prog 181 [] [.agg s.cells,.int .i64 w,.int .i64 c] [] (.bD [.int .i64 (Rm s w c),.int .i64 (UF s w c)]):=by
 obtain ⟨hro,hb,_,_⟩:=hs;have h1:=En s.bE s.aj s.ps w c hl hro hp hr.bs;have h2:=gX s.book hb hr.qs;have h3:=Cn s.aj w c s.book.qs hro hb.2;simp only [bn.cells,aq.cells,aG.cells] at h1 h2 h3;simp only [af.cells,Rm,UF];refine aU 63 3 [.tmp 6,.tmp 7] mixed Tryz.func181 ?_;simp only [go_sem,seval];refine aa.pure h1 ?_
 by_cases e1:H7 s.bE s.aj s.ps w c=0
 case neg =>
  have b1:(H7 s.bE s.aj s.ps w c==0)=false:=by simpa using e1
  simp only [go_sem,seval,bne,b1,if_neg e1]
 have hin1:=(aaX e1).2.2.2;have hin3:=L1 s.aj w c s.book.qs;have b1:(H7 s.bE s.aj s.ps w c==0)=true:=by simpa using e1
 simp only [go_sem,seval,bne,b1,if_pos e1];refine aa.pure h2 ?_;cases b2:s.book.okB
 ·simp only [go_sem,seval,b2]
 simp only [go_sem,seval,b2];refine aa.pure h3 ?_
 by_cases e3:Bq s.aj w c s.book.qs=0
 case neg =>
  have b3:(Bq s.aj w c s.book.qs==0)=false:=by simpa using e3
  simp only [go_sem,seval,bne,b3,if_neg e3]
 have b3:(Bq s.aj w c s.book.qs==0)=true:=by simpa using e3
 simp only [if_pos e3];obtain ⟨M,hM⟩:=aO (zV s.aj w c s.book.qs);obtain ⟨C,hC⟩:=aO (Ig s.bE s.aj s.ps w c);rw [<- hC] at hin1 |-;rw [<- hM] at hin3 |-;have i1:=cR.1 hin1;have i3:=cR.1 hin3;have hw:IntKind.wrap .i64 (0-C) = -C:=by rw [bz (by omega) (by omega)];omega
 have hA:=cu [M,-C] (by intro n hn;simp only [List.mem_cons,List.not_mem_nil,or_false] at hn;rcases hn with rfl | rfl<;>exact ⟨by omega,by omega⟩) (by simp);have hsum:aC [M,-C]=M-C:=by simp [aC];omega
 simp only [addN,hsum,ints,List.map_cons,List.map_nil] at hA;simp only [go_sem,seval,bne,b3,hw];refine aa.gen [] [] true (by simp) ?_;simp only [go_sem,seval];refine bg.intro hA ?_;simp only [Un,Ut,hin1,hin3,Bool.true_and,Bool.and_self,if_true];cases hd:bS (M-C)
 ·by_cases e4:M<=C
  ·have d4:decide (C < M)=false:=decide_eq_false (by omega);simp only [go_sem,seval,hd,d4,if_pos e4,ir,if_false]<;>simp
  ·have d4:decide (C < M)=true:=decide_eq_true (by omega);simp only [go_sem,seval,hd,d4,if_neg e4,ir,if_false]
 ·by_cases e4:M<=C
  ·have hmax:max (M-C) 0=0:=by omega
   simp only [go_sem,seval,hd,hmax,if_pos e4]
  ·have hmax:max (M-C) 0=M-C:=by omega
   simp only [go_sem,seval,hd,hmax,if_neg e4]
deriving instance DecidableEq for ak,ay,av,bJ,aJ
theorem iW {A:Type} {xs ys:List A} (hl:xs.length=ys.length) (h:∀ j (h1:j < xs.length) (h2:j < ys.length),j < xs.length->xs[j]=ys[j]):xs=ys:=List.ext_getElem hl fun j h1 h2=>h j h1 h2 h1
theorem kI {A:Type} {xs ys:List A} {i:Nat} (hI:∀ j (h1:j < xs.length) (h2:j < ys.length),j < i->xs[j]=ys[j]) (h1:i < xs.length) (h2:i < ys.length) (he:xs[i]=ys[i]):∀ j (h1:j < xs.length) (h2:j < ys.length),j < i+1->xs[j]=ys[j]:=by
 intro j a b hj;rcases Nat.lt_or_ge j i with h | h
 ·exact hI j a b h
 ·obtain rfl:j=i:=by omega
  exact he
theorem Dz (a b:aJ):Abs.Spec Tryz.prog 66 [] [.agg a.cells,.agg b.cells] [] (.bool (decide (a=b))):=by
 have h:=Ei a b;have e:a.same b=decide (a=b):=by rw [Bool.eq_iff_iff,P1];cases a;cases b;simp
 rwa [e] at h
theorem xC (a b:aN):Abs.Spec Tryz.prog 67 [] [.agg a.cells,.agg b.cells] [] (.bool (decide (a=b))):=by
 simp only [aN.cells];refine aU 24 2 [.tmp 4] mixed Tryz.func67 ?_;simp only [go_sem,seval]
 repeat' with_reducible first|apply And.intro|exact .dq|refine aa.pure (by assumption) ?_|refine .aH (fun h=>?_) fun h=>?_|refine .aF (fun h=>?_) fun h=>?_|refine .aK (fun h=>?_) fun h=>?_|refine .split (fun h=>?_) fun h=>?_|refine .id ?_|refine ah.next (by omega) ?_ ?_|exact trivial|simp only [*,go_sem,seval]
 all_goals (rw [Bool.eq_iff_iff];cases a;cases b;simp_all)
theorem C9 (a b:av):Abs.Spec Tryz.prog 148 [] [.agg a.cells,.agg b.cells] [] (.bool (decide (a=b))):=by
 simp only [av.cells];refine aU 31 2 [.tmp 4] mixed Tryz.func148 ?_;simp only [go_sem,seval]
 repeat' with_reducible first|apply And.intro|exact .dq|refine aa.pure (by assumption) ?_|refine .aH (fun h=>?_) fun h=>?_|refine .aF (fun h=>?_) fun h=>?_|refine .aK (fun h=>?_) fun h=>?_|refine .split (fun h=>?_) fun h=>?_|refine .id ?_|refine ah.next (by omega) ?_ ?_|exact trivial|simp only [*,go_sem,seval]
 all_goals (rw [Bool.eq_iff_iff];cases a;cases b;simp_all)
theorem wX (a b c d:Int):Abs.Spec Tryz.prog 68 [] [.agg [.int .i64 a,.int .i64 b],.agg [.int .i64 c,.int .i64 d]] [] (.bool (decide (a=c/\b=d))):=by
 refine aU 17 2 [.tmp 4] mixed Tryz.func68 ?_;simp only [go_sem,seval]
 repeat' with_reducible first|apply And.intro|exact .dq|refine aa.pure (by assumption) ?_|refine .aH (fun h=>?_) fun h=>?_|refine .aF (fun h=>?_) fun h=>?_|refine .aK (fun h=>?_) fun h=>?_|refine .split (fun h=>?_) fun h=>?_|refine .id ?_|refine ah.next (by omega) ?_ ?_|exact trivial|simp only [*,go_sem,seval]
 all_goals (rw [Bool.eq_iff_iff];simp_all)
theorem Gt (a b:aA):Abs.Spec Tryz.prog 149 [] [.agg a.cells,.agg b.cells] [] (.bool (decide (a=b))):=by
 have h:=wX a.who a.inst b.who b.inst;simp only [aA.cells];refine aU 24 2 [.tmp 4] mixed Tryz.func149 ?_;simp only [go_sem,seval]
 repeat' with_reducible first|apply And.intro|exact .dq|refine aa.pure (by assumption) ?_|refine aa.pure (h) ?_|refine .aH (fun h=>?_) fun h=>?_|refine .aF (fun h=>?_) fun h=>?_|refine .aK (fun h=>?_) fun h=>?_|refine .split (fun h=>?_) fun h=>?_|refine .id ?_|refine ah.next (by omega) ?_ ?_|exact trivial|simp only [*,go_sem,seval]
 all_goals (rw [Bool.eq_iff_iff];cases a;cases b;simp_all)
theorem BY (a b c d e f:Int):Abs.Spec Tryz.prog 17 [] [.agg [.int .i64 a,.int .i64 b,.int .i64 c],.agg [.int .i64 d,.int .i64 e,.int .i64 f]] [] (.bool (decide (a=d/\b=e/\c=f))):=by
 refine aU 24 2 [.tmp 4] mixed Tryz.func17 ?_;simp only [go_sem,seval]
 repeat' with_reducible first|apply And.intro|exact .dq|refine aa.pure (by assumption) ?_|refine .aH (fun h=>?_) fun h=>?_|refine .aF (fun h=>?_) fun h=>?_|refine .aK (fun h=>?_) fun h=>?_|refine .split (fun h=>?_) fun h=>?_|refine .id ?_|refine ah.next (by omega) ?_ ?_|exact trivial|simp only [*,go_sem,seval]
 all_goals (rw [Bool.eq_iff_iff];simp_all)
theorem Qn {a b:ay}:a=b ↔ (∀ j < 6,a.sh j=b.sh j)/\a.no=b.no/\a.cur=b.cur/\a.mult=b.mult/\a.add=b.add/\a.set=b.set/\a.aR=b.aR:=by
 constructor
 ·rintro rfl;simp
 ·rintro ⟨h,h1,h2,h3,h4,h5,h6⟩
  have s0:=h 0 (by omega);have s1:=h 1 (by omega);have s2:=h 2 (by omega);have s3:=h 3 (by omega);have s4:=h 4 (by omega);have s5:=h 5 (by omega);cases a;cases b;simp only [ay.sh] at s0 s1 s2 s3 s4 s5
  simp_all
theorem MF (x:ay) {i:Nat} (h:i < 6):(List.drop (6+i*1) x.cells).headD .undef=.int .i64 (x.sh i):=by
 rcases i with _ | _ | _ | _ | _ | _ | i<;>first | rfl | omega
theorem Ea (a b:ay):Abs.Spec Tryz.prog 147 [] [.agg a.cells,.agg b.cells] [] (.bool (decide (a=b))):=by
 simp only [ay.cells];refine aU 59 2 [.tmp 4] mixed Tryz.func147 ?_;simp only [go_sem,seval];refine aB.walk (S:=Unit) 6 [2,3] [48,64] (fun i _=>[(5,.int .i64 i)]) (fun i _=>[]) (fun i _=>∀ j < i,a.sh j=b.sh j) () (by intros;omega) ?_ ?_ ?_
 ·simp only [go_sem,seval]<;>simp
 ·intro i _ hi hdi hw hI;have hdi:decide ((i:Int) < 6)=true:=hdi;have ha:=MF a hi;have hb:=MF b hi;simp only [ay.cells] at ha hb;simp only [go_sem,seval,hdi,ha,hb];(with_reducible and_intros)<;>first|exact .dq|omega|skip
  cases he:a.sh i==b.sh i
  ·have hn:decide (a=b)=false:=decide_eq_false fun h=>by rw [h] at he;simp at he
   simp only [go_sem,seval,bne,he,hn]
  ·simp only [go_sem,seval,bne,he,hw];refine ah.step () hi ?_ ?_
   ·intro j hj;rcases Nat.lt_or_ge j i with h | h
    ·exact hI j h
    ·obtain rfl:j=i:=by omega
     simpa using he
   ·simp only [go_sem,seval]
 ·intro _ hdx hI;have hdx:decide ((6:Int) < 6)=false:=hdx
  have e:decide (a=b)=decide (a.no=b.no/\a.cur=b.cur/\a.mult=b.mult/\a.add=b.add/\a.set=b.set/\a.aR=b.aR):=by
   rw [Bool.eq_iff_iff,decide_eq_true_iff,decide_eq_true_iff,Qn];exact ⟨fun h=>h.2,fun h=>⟨hI,h⟩⟩
  rw [e];clear e hI;simp only [go_sem,seval,hdx]
  repeat' with_reducible first|apply And.intro|exact .dq|refine aa.pure (by assumption) ?_|refine .aH (fun h=>?_) fun h=>?_|refine .aF (fun h=>?_) fun h=>?_|refine .aK (fun h=>?_) fun h=>?_|refine .split (fun h=>?_) fun h=>?_|refine .id ?_|refine ah.next (by omega) ?_ ?_|exact trivial|simp only [*,go_sem,seval]
  all_goals (rw [Bool.eq_iff_iff];simp_all)
def ck.ch (x:ck):Nat->Int
 | 0=>x.c0 | 1=>x.c1 | 2=>x.c2 | 3=>x.c3 | _=>x.c4
theorem QX {a b:ck}:a=b ↔ (∀ j < 5,a.ch j=b.ch j)/\a.cur=b.cur/\a.gh=b.gh/\a.rest=b.rest:=by
 constructor
 ·rintro rfl;simp
 ·rintro ⟨h,h1,h2,h3⟩
  have s0:=h 0 (by omega);have s1:=h 1 (by omega);have s2:=h 2 (by omega);have s3:=h 3 (by omega);have s4:=h 4 (by omega);cases a;cases b;simp only [ck.ch] at s0 s1 s2 s3 s4
  simp_all
theorem Nq (x:ck) {i:Nat} (h:i < 5):(List.drop (2+i*1) x.cells).headD .undef=.int .i64 (x.ch i):=by
 rcases i with _ | _ | _ | _ | _ | i<;>first | rfl | omega
theorem DJ (a b:ck):Abs.Spec Tryz.prog 214 [] [.agg a.cells,.agg b.cells] [] (.bool (decide (a=b))):=by
 simp only [ck.cells];refine aU 38 2 [.tmp 4] mixed Tryz.func214 ?_;simp only [go_sem,seval];refine aB.walk (S:=Unit) 5 [2,3] [48,64] (fun i _=>[(5,.int .i64 i)]) (fun i _=>[]) (fun i _=>∀ j < i,a.ch j=b.ch j) () (by intros;omega) ?_ ?_ ?_
 ·simp only [go_sem,seval]<;>simp
 ·intro i _ hi hdi hw hI;have hdi:decide ((i:Int) < 5)=true:=hdi;have ha:=Nq a hi;have hb:=Nq b hi;simp only [ck.cells] at ha hb;simp only [go_sem,seval,hdi,ha,hb];(with_reducible and_intros)<;>first|exact .dq|omega|skip
  cases he:a.ch i==b.ch i
  ·have hn:decide (a=b)=false:=decide_eq_false fun h=>by rw [h] at he;simp at he
   simp only [go_sem,seval,bne,he,hn]
  ·simp only [go_sem,seval,bne,he,hw];refine ah.step () hi ?_ ?_
   ·intro j hj;rcases Nat.lt_or_ge j i with h | h
    ·exact hI j h
    ·obtain rfl:j=i:=by omega
     simpa using he
   ·simp only [go_sem,seval]
 ·intro _ hdx hI;have hdx:decide ((5:Int) < 5)=false:=hdx
  have e:decide (a=b)=decide (a.cur=b.cur/\a.gh=b.gh/\a.rest=b.rest):=by
   rw [Bool.eq_iff_iff,decide_eq_true_iff,decide_eq_true_iff,QX];exact ⟨fun h=>h.2,fun h=>⟨hI,h⟩⟩
  rw [e];clear e hI;simp only [go_sem,seval,hdx]
  repeat' with_reducible first|apply And.intro|exact .dq|refine aa.pure (by assumption) ?_|refine .aH (fun h=>?_) fun h=>?_|refine .aF (fun h=>?_) fun h=>?_|refine .aK (fun h=>?_) fun h=>?_|refine .split (fun h=>?_) fun h=>?_|refine .id ?_|refine ah.next (by omega) ?_ ?_|exact trivial|simp only [*,go_sem,seval]
  all_goals (rw [Bool.eq_iff_iff];simp_all)
theorem yd (xs ys:List ak) (hl:xs.length < 4611686018427387904):Abs.Spec Tryz.prog 61 [] [.sl 3 (xs.map ak.cells),.sl 3 (ys.map ak.cells)] [] (.bool (decide (xs=ys))):=by
 refine aU 54 2 [.tmp 4] mixed Tryz.func61 ?_;simp only [go_sem,seval,aI]
 by_cases hlen:xs.length=ys.length
 case neg =>
  have b:((xs.length:Int)==(ys.length:Int))=false:=by rw [beq_eq_false_iff_ne];omega
  have e:decide (xs=ys)=false:=decide_eq_false fun h=>hlen (by rw [h])
  simp only [go_sem,seval,bne,b,e]
 have b:((xs.length:Int)==(ys.length:Int))=true:=by rw [beq_iff_eq];omega
 simp only [go_sem,seval,bne,b,aI];refine aB.walk (S:=Unit) xs.length [0,1] [] (fun i _=>[(5,.int .i64 i)]) (fun i _=>[]) (fun i _=>∀ j (h1:j < xs.length) (h2:j < ys.length),j < i->xs[j]=ys[j]) () (by intros;omega) ?_ ?_ ?_
 ·simp only [go_sem,seval]<;>simp
 ·intro i _ hi hdi hw hI;have hi2:i < ys.length:=by omega
  have hm:=aD (c:=ak.cells) xs hi;have hm2:=aD (c:=ak.cells) ys hi2;have e0:=kI hI hi hi2;have e1:xs[i]≠ys[i]->decide (xs=ys)=false:=fun h=>decide_eq_false fun e=>h (by subst e;rfl)
  have hl1:(i:Int) < (xs.length:Int):=by omega
  have hl2:(i:Int) < (ys.length:Int):=by omega
  obtain ⟨x,hx⟩:=aO (xs[i]);obtain ⟨y,hy⟩:=aO (ys[i]);rw [<- hx] at hm e0 e1;rw [<- hy] at hm2 e0 e1;simp only [ak.cells] at *;clear hx hy hI hlen;simp only [go_sem,seval,aI,hdi,hm,hm2]
  repeat' with_reducible first|apply And.intro|exact .dq|refine aa.pure (by assumption) ?_|refine .aH (fun h=>?_) fun h=>?_|refine .aF (fun h=>?_) fun h=>?_|refine .aK (fun h=>?_) fun h=>?_|refine .split (fun h=>?_) fun h=>?_|refine .id ?_|refine ah.next (by omega) ?_ ?_|exact trivial|simp only [*,go_sem,seval,hm,hm2,aI]
  all_goals first
   | omega
   | (refine ah.step () hi (e0 ?_) ?_
      ·clear e0 e1;cases x;cases y;simp_all;done
      ·simp only [go_sem,seval])
   | (rw [e1 ?_];clear e0 e1;cases x;cases y;simp_all;done)
 ·intro _ hdx hI;have e:decide (xs=ys)=true:=decide_eq_true (iW hlen hI);simp only [go_sem,seval,aI,hdx,e]
theorem CL (xs ys:List ay) (hl:xs.length < 4611686018427387904):Abs.Spec Tryz.prog 62 [] [.sl 12 (xs.map ay.cells),.sl 12 (ys.map ay.cells)] [] (.bool (decide (xs=ys))):=by
 refine aU 27 2 [.tmp 4] mixed Tryz.func62 ?_;simp only [go_sem,seval,aI]
 by_cases hlen:xs.length=ys.length
 case neg =>
  have b:((xs.length:Int)==(ys.length:Int))=false:=by rw [beq_eq_false_iff_ne];omega
  have e:decide (xs=ys)=false:=decide_eq_false fun h=>hlen (by rw [h])
  simp only [go_sem,seval,bne,b,e]
 have b:((xs.length:Int)==(ys.length:Int))=true:=by rw [beq_iff_eq];omega
 simp only [go_sem,seval,bne,b,aI];refine aB.walk (S:=Unit) xs.length [0,1] [] (fun i _=>[(5,.int .i64 i)]) (fun i _=>[]) (fun i _=>∀ j (h1:j < xs.length) (h2:j < ys.length),j < i->xs[j]=ys[j]) () (by intros;omega) ?_ ?_ ?_
 ·simp only [go_sem,seval]<;>simp
 ·intro i _ hi hdi hw hI;have hi2:i < ys.length:=by omega
  have hm:=aD (c:=ay.cells) xs hi;have hm2:=aD (c:=ay.cells) ys hi2;have e0:=kI hI hi hi2;have e1:xs[i]≠ys[i]->decide (xs=ys)=false:=fun h=>decide_eq_false fun e=>h (by subst e;rfl)
  have hl1:(i:Int) < (xs.length:Int):=by omega
  have hl2:(i:Int) < (ys.length:Int):=by omega
  obtain ⟨x,hx⟩:=aO (xs[i]);obtain ⟨y,hy⟩:=aO (ys[i]);rw [<- hx] at hm e0 e1;rw [<- hy] at hm2 e0 e1;have hc:=Ea x y;simp only [ay.cells] at *;clear hx hy hI hlen;simp only [go_sem,seval,aI,hdi,hm,hm2]
  repeat' with_reducible first|apply And.intro|exact .dq|refine aa.pure (by assumption) ?_|refine aa.pure (hc) ?_|refine .aH (fun h=>?_) fun h=>?_|refine .aF (fun h=>?_) fun h=>?_|refine .aK (fun h=>?_) fun h=>?_|refine .split (fun h=>?_) fun h=>?_|refine .id ?_|refine ah.next (by omega) ?_ ?_|exact trivial|simp only [*,go_sem,seval,hm,hm2,aI]
  all_goals first
   | omega
   | (refine ah.step () hi (e0 ?_) ?_
      ·clear e0 e1;cases x;cases y;simp_all;done
      ·simp only [go_sem,seval])
   | (rw [e1 ?_];clear e0 e1;cases x;cases y;simp_all;done)
 ·intro _ hdx hI;have e:decide (xs=ys)=true:=decide_eq_true (iW hlen hI);simp only [go_sem,seval,aI,hdx,e]
theorem Ab (xs ys:List av) (hl:xs.length < 4611686018427387904):Abs.Spec Tryz.prog 63 [] [.sl 4 (xs.map av.cells),.sl 4 (ys.map av.cells)] [] (.bool (decide (xs=ys))):=by
 refine aU 27 2 [.tmp 4] mixed Tryz.func63 ?_;simp only [go_sem,seval,aI]
 by_cases hlen:xs.length=ys.length
 case neg =>
  have b:((xs.length:Int)==(ys.length:Int))=false:=by rw [beq_eq_false_iff_ne];omega
  have e:decide (xs=ys)=false:=decide_eq_false fun h=>hlen (by rw [h])
  simp only [go_sem,seval,bne,b,e]
 have b:((xs.length:Int)==(ys.length:Int))=true:=by rw [beq_iff_eq];omega
 simp only [go_sem,seval,bne,b,aI];refine aB.walk (S:=Unit) xs.length [0,1] [] (fun i _=>[(5,.int .i64 i)]) (fun i _=>[]) (fun i _=>∀ j (h1:j < xs.length) (h2:j < ys.length),j < i->xs[j]=ys[j]) () (by intros;omega) ?_ ?_ ?_
 ·simp only [go_sem,seval]<;>simp
 ·intro i _ hi hdi hw hI;have hi2:i < ys.length:=by omega
  have hm:=aD (c:=av.cells) xs hi;have hm2:=aD (c:=av.cells) ys hi2;have e0:=kI hI hi hi2;have e1:xs[i]≠ys[i]->decide (xs=ys)=false:=fun h=>decide_eq_false fun e=>h (by subst e;rfl)
  have hl1:(i:Int) < (xs.length:Int):=by omega
  have hl2:(i:Int) < (ys.length:Int):=by omega
  obtain ⟨x,hx⟩:=aO (xs[i]);obtain ⟨y,hy⟩:=aO (ys[i]);rw [<- hx] at hm e0 e1;rw [<- hy] at hm2 e0 e1;have hc:=C9 x y;simp only [av.cells] at *;clear hx hy hI hlen;simp only [go_sem,seval,aI,hdi,hm,hm2]
  repeat' with_reducible first|apply And.intro|exact .dq|refine aa.pure (by assumption) ?_|refine aa.pure (hc) ?_|refine .aH (fun h=>?_) fun h=>?_|refine .aF (fun h=>?_) fun h=>?_|refine .aK (fun h=>?_) fun h=>?_|refine .split (fun h=>?_) fun h=>?_|refine .id ?_|refine ah.next (by omega) ?_ ?_|exact trivial|simp only [*,go_sem,seval,hm,hm2,aI]
  all_goals first
   | omega
   | (refine ah.step () hi (e0 ?_) ?_
      ·clear e0 e1;cases x;cases y;simp_all;done
      ·simp only [go_sem,seval])
   | (rw [e1 ?_];clear e0 e1;cases x;cases y;simp_all;done)
 ·intro _ hdx hI;have e:decide (xs=ys)=true:=decide_eq_true (iW hlen hI);simp only [go_sem,seval,aI,hdx,e]
theorem zW (xs ys:List aL) (hl:xs.length < 4611686018427387904):Abs.Spec Tryz.prog 64 [] [.sl 7 (xs.map aL.cells),.sl 7 (ys.map aL.cells)] [] (.bool (decide (xs=ys))):=by
 refine aU 74 2 [.tmp 4] mixed Tryz.func64 ?_;simp only [go_sem,seval,aI]
 by_cases hlen:xs.length=ys.length
 case neg =>
  have b:((xs.length:Int)==(ys.length:Int))=false:=by rw [beq_eq_false_iff_ne];omega
  have e:decide (xs=ys)=false:=decide_eq_false fun h=>hlen (by rw [h])
  simp only [go_sem,seval,bne,b,e]
 have b:((xs.length:Int)==(ys.length:Int))=true:=by rw [beq_iff_eq];omega
 simp only [go_sem,seval,bne,b,aI];refine aB.walk (S:=Unit) xs.length [0,1] [] (fun i _=>[(5,.int .i64 i)]) (fun i _=>[]) (fun i _=>∀ j (h1:j < xs.length) (h2:j < ys.length),j < i->xs[j]=ys[j]) () (by intros;omega) ?_ ?_ ?_
 ·simp only [go_sem,seval]<;>simp
 ·intro i _ hi hdi hw hI;have hi2:i < ys.length:=by omega
  have hm:=aD (c:=aL.cells) xs hi;have hm2:=aD (c:=aL.cells) ys hi2;have e0:=kI hI hi hi2;have e1:xs[i]≠ys[i]->decide (xs=ys)=false:=fun h=>decide_eq_false fun e=>h (by subst e;rfl)
  have hl1:(i:Int) < (xs.length:Int):=by omega
  have hl2:(i:Int) < (ys.length:Int):=by omega
  obtain ⟨x,hx⟩:=aO (xs[i]);obtain ⟨y,hy⟩:=aO (ys[i]);rw [<- hx] at hm e0 e1;rw [<- hy] at hm2 e0 e1;simp only [aL.cells] at *;clear hx hy hI hlen;simp only [go_sem,seval,aI,hdi,hm,hm2]
  repeat' with_reducible first|apply And.intro|exact .dq|refine aa.pure (by assumption) ?_|refine .aH (fun h=>?_) fun h=>?_|refine .aF (fun h=>?_) fun h=>?_|refine .aK (fun h=>?_) fun h=>?_|refine .split (fun h=>?_) fun h=>?_|refine .id ?_|refine ah.next (by omega) ?_ ?_|exact trivial|simp only [*,go_sem,seval,hm,hm2,aI]
  all_goals first
   | omega
   | (refine ah.step () hi (e0 ?_) ?_
      ·clear e0 e1;cases x;cases y;simp_all;done
      ·simp only [go_sem,seval])
   | (rw [e1 ?_];clear e0 e1;cases x;cases y;simp_all;done)
 ·intro _ hdx hI;have e:decide (xs=ys)=true:=decide_eq_true (iW hlen hI);simp only [go_sem,seval,aI,hdx,e]
theorem Eu (xs ys:List aA) (hl:xs.length < 4611686018427387904):Abs.Spec Tryz.prog 65 [] [.sl 4 (xs.map aA.cells),.sl 4 (ys.map aA.cells)] [] (.bool (decide (xs=ys))):=by
 refine aU 27 2 [.tmp 4] mixed Tryz.func65 ?_;simp only [go_sem,seval,aI]
 by_cases hlen:xs.length=ys.length
 case neg =>
  have b:((xs.length:Int)==(ys.length:Int))=false:=by rw [beq_eq_false_iff_ne];omega
  have e:decide (xs=ys)=false:=decide_eq_false fun h=>hlen (by rw [h])
  simp only [go_sem,seval,bne,b,e]
 have b:((xs.length:Int)==(ys.length:Int))=true:=by rw [beq_iff_eq];omega
 simp only [go_sem,seval,bne,b,aI];refine aB.walk (S:=Unit) xs.length [0,1] [] (fun i _=>[(5,.int .i64 i)]) (fun i _=>[]) (fun i _=>∀ j (h1:j < xs.length) (h2:j < ys.length),j < i->xs[j]=ys[j]) () (by intros;omega) ?_ ?_ ?_
 ·simp only [go_sem,seval]<;>simp
 ·intro i _ hi hdi hw hI;have hi2:i < ys.length:=by omega
  have hm:=aD (c:=aA.cells) xs hi;have hm2:=aD (c:=aA.cells) ys hi2;have e0:=kI hI hi hi2;have e1:xs[i]≠ys[i]->decide (xs=ys)=false:=fun h=>decide_eq_false fun e=>h (by subst e;rfl)
  have hl1:(i:Int) < (xs.length:Int):=by omega
  have hl2:(i:Int) < (ys.length:Int):=by omega
  obtain ⟨x,hx⟩:=aO (xs[i]);obtain ⟨y,hy⟩:=aO (ys[i]);rw [<- hx] at hm e0 e1;rw [<- hy] at hm2 e0 e1;have hc:=Gt x y;simp only [aA.cells] at *;clear hx hy hI hlen;simp only [go_sem,seval,aI,hdi,hm,hm2]
  repeat' with_reducible first|apply And.intro|exact .dq|refine aa.pure (by assumption) ?_|refine aa.pure (hc) ?_|refine .aH (fun h=>?_) fun h=>?_|refine .aF (fun h=>?_) fun h=>?_|refine .aK (fun h=>?_) fun h=>?_|refine .split (fun h=>?_) fun h=>?_|refine .id ?_|refine ah.next (by omega) ?_ ?_|exact trivial|simp only [*,go_sem,seval,hm,hm2,aI]
  all_goals first
   | omega
   | (refine ah.step () hi (e0 ?_) ?_
      ·clear e0 e1;cases x;cases y;simp_all;done
      ·simp only [go_sem,seval])
   | (rw [e1 ?_];clear e0 e1;cases x;cases y;simp_all;done)
 ·intro _ hdx hI;have e:decide (xs=ys)=true:=decide_eq_true (iW hlen hI);simp only [go_sem,seval,aI,hdx,e]
theorem DE (xs ys:List au) (hl:xs.length < 4611686018427387904):Abs.Spec Tryz.prog 22 [] [.sl 4 (xs.map au.cells),.sl 4 (ys.map au.cells)] [] (.bool (decide (xs=ys))):=by
 refine aU 42 2 [.tmp 4] mixed Tryz.func22 ?_;simp only [go_sem,seval,aI]
 by_cases hlen:xs.length=ys.length
 case neg =>
  have b:((xs.length:Int)==(ys.length:Int))=false:=by rw [beq_eq_false_iff_ne];omega
  have e:decide (xs=ys)=false:=decide_eq_false fun h=>hlen (by rw [h])
  simp only [go_sem,seval,bne,b,e]
 have b:((xs.length:Int)==(ys.length:Int))=true:=by rw [beq_iff_eq];omega
 simp only [go_sem,seval,bne,b,aI];refine aB.walk (S:=Unit) xs.length [0,1] [] (fun i _=>[(5,.int .i64 i)]) (fun i _=>[]) (fun i _=>∀ j (h1:j < xs.length) (h2:j < ys.length),j < i->xs[j]=ys[j]) () (by intros;omega) ?_ ?_ ?_
 ·simp only [go_sem,seval]<;>simp
 ·intro i _ hi hdi hw hI;have hi2:i < ys.length:=by omega
  have hm:=aD (c:=au.cells) xs hi;have hm2:=aD (c:=au.cells) ys hi2;have e0:=kI hI hi hi2;have e1:xs[i]≠ys[i]->decide (xs=ys)=false:=fun h=>decide_eq_false fun e=>h (by subst e;rfl)
  have hl1:(i:Int) < (xs.length:Int):=by omega
  have hl2:(i:Int) < (ys.length:Int):=by omega
  obtain ⟨x,hx⟩:=aO (xs[i]);obtain ⟨y,hy⟩:=aO (ys[i]);rw [<- hx] at hm e0 e1;rw [<- hy] at hm2 e0 e1;have hc:=xC ⟨x.who,x.cur,x.bX⟩ ⟨y.who,y.cur,y.bX⟩;simp only [aN.cells] at hc;simp only [au.cells] at *;clear hx hy hI hlen;simp only [go_sem,seval,aI,hdi,hm,hm2]
  repeat' with_reducible first|apply And.intro|exact .dq|refine aa.pure (by assumption) ?_|refine aa.pure (hc) ?_|refine .aH (fun h=>?_) fun h=>?_|refine .aF (fun h=>?_) fun h=>?_|refine .aK (fun h=>?_) fun h=>?_|refine .split (fun h=>?_) fun h=>?_|refine .id ?_|refine ah.next (by omega) ?_ ?_|exact trivial|simp only [*,go_sem,seval,hm,hm2,aI]
  all_goals first
   | omega
   | (refine ah.step () hi (e0 ?_) ?_
      ·clear e0 e1;cases x;cases y;simp_all;done
      ·simp only [go_sem,seval])
   | (rw [e1 ?_];clear e0 e1;cases x;cases y;simp_all;done)
 ·intro _ hdx hI;have e:decide (xs=ys)=true:=decide_eq_true (iW hlen hI);simp only [go_sem,seval,aI,hdx,e]
theorem Ec (xs ys:List bp) (hl:xs.length < 4611686018427387904):Abs.Spec Tryz.prog 23 [] [.sl 5 (xs.map bp.cells),.sl 5 (ys.map bp.cells)] [] (.bool (decide (xs=ys))):=by
 refine aU 68 2 [.tmp 4] mixed Tryz.func23 ?_;simp only [go_sem,seval,aI]
 by_cases hlen:xs.length=ys.length
 case neg =>
  have b:((xs.length:Int)==(ys.length:Int))=false:=by rw [beq_eq_false_iff_ne];omega
  have e:decide (xs=ys)=false:=decide_eq_false fun h=>hlen (by rw [h])
  simp only [go_sem,seval,bne,b,e]
 have b:((xs.length:Int)==(ys.length:Int))=true:=by rw [beq_iff_eq];omega
 simp only [go_sem,seval,bne,b,aI];refine aB.walk (S:=Unit) xs.length [0,1] [] (fun i _=>[(5,.int .i64 i)]) (fun i _=>[]) (fun i _=>∀ j (h1:j < xs.length) (h2:j < ys.length),j < i->xs[j]=ys[j]) () (by intros;omega) ?_ ?_ ?_
 ·simp only [go_sem,seval]<;>simp
 ·intro i _ hi hdi hw hI;have hi2:i < ys.length:=by omega
  have hm:=aD (c:=bp.cells) xs hi;have hm2:=aD (c:=bp.cells) ys hi2;have e0:=kI hI hi hi2;have e1:xs[i]≠ys[i]->decide (xs=ys)=false:=fun h=>decide_eq_false fun e=>h (by subst e;rfl)
  have hl1:(i:Int) < (xs.length:Int):=by omega
  have hl2:(i:Int) < (ys.length:Int):=by omega
  obtain ⟨x,hx⟩:=aO (xs[i]);obtain ⟨y,hy⟩:=aO (ys[i]);rw [<- hx] at hm e0 e1;rw [<- hy] at hm2 e0 e1;have hc:=wX x.who x.inst y.who y.inst;simp only [bp.cells] at *;clear hx hy hI hlen;simp only [go_sem,seval,aI,hdi,hm,hm2]
  repeat' with_reducible first|apply And.intro|exact .dq|refine aa.pure (by assumption) ?_|refine aa.pure (hc) ?_|refine .aH (fun h=>?_) fun h=>?_|refine .aF (fun h=>?_) fun h=>?_|refine .aK (fun h=>?_) fun h=>?_|refine .split (fun h=>?_) fun h=>?_|refine .id ?_|refine ah.next (by omega) ?_ ?_|exact trivial|simp only [*,go_sem,seval,hm,hm2,aI]
  all_goals first
   | omega
   | (refine ah.step () hi (e0 ?_) ?_
      ·clear e0 e1;cases x;cases y;simp_all;done
      ·simp only [go_sem,seval])
   | (rw [e1 ?_];clear e0 e1;cases x;cases y;simp_all;done)
 ·intro _ hdx hI;have e:decide (xs=ys)=true:=decide_eq_true (iW hlen hI);simp only [go_sem,seval,aI,hdx,e]
theorem Ep (xs ys:List aN) (hl:xs.length < 4611686018427387904):Abs.Spec Tryz.prog 150 [] [.sl 3 (xs.map aN.cells),.sl 3 (ys.map aN.cells)] [] (.bool (decide (xs=ys))):=by
 refine aU 27 2 [.tmp 4] mixed Tryz.func150 ?_;simp only [go_sem,seval,aI]
 by_cases hlen:xs.length=ys.length
 case neg =>
  have b:((xs.length:Int)==(ys.length:Int))=false:=by rw [beq_eq_false_iff_ne];omega
  have e:decide (xs=ys)=false:=decide_eq_false fun h=>hlen (by rw [h])
  simp only [go_sem,seval,bne,b,e]
 have b:((xs.length:Int)==(ys.length:Int))=true:=by rw [beq_iff_eq];omega
 simp only [go_sem,seval,bne,b,aI];refine aB.walk (S:=Unit) xs.length [0,1] [] (fun i _=>[(5,.int .i64 i)]) (fun i _=>[]) (fun i _=>∀ j (h1:j < xs.length) (h2:j < ys.length),j < i->xs[j]=ys[j]) () (by intros;omega) ?_ ?_ ?_
 ·simp only [go_sem,seval]<;>simp
 ·intro i _ hi hdi hw hI;have hi2:i < ys.length:=by omega
  have hm:=aD (c:=aN.cells) xs hi;have hm2:=aD (c:=aN.cells) ys hi2;have e0:=kI hI hi hi2;have e1:xs[i]≠ys[i]->decide (xs=ys)=false:=fun h=>decide_eq_false fun e=>h (by subst e;rfl)
  have hl1:(i:Int) < (xs.length:Int):=by omega
  have hl2:(i:Int) < (ys.length:Int):=by omega
  obtain ⟨x,hx⟩:=aO (xs[i]);obtain ⟨y,hy⟩:=aO (ys[i]);rw [<- hx] at hm e0 e1;rw [<- hy] at hm2 e0 e1;have hc:=xC x y;simp only [aN.cells] at *;clear hx hy hI hlen;simp only [go_sem,seval,aI,hdi,hm,hm2]
  repeat' with_reducible first|apply And.intro|exact .dq|refine aa.pure (by assumption) ?_|refine aa.pure (hc) ?_|refine .aH (fun h=>?_) fun h=>?_|refine .aF (fun h=>?_) fun h=>?_|refine .aK (fun h=>?_) fun h=>?_|refine .split (fun h=>?_) fun h=>?_|refine .id ?_|refine ah.next (by omega) ?_ ?_|exact trivial|simp only [*,go_sem,seval,hm,hm2,aI]
  all_goals first
   | omega
   | (refine ah.step () hi (e0 ?_) ?_
      ·clear e0 e1;cases x;cases y;simp_all;done
      ·simp only [go_sem,seval])
   | (rw [e1 ?_];clear e0 e1;cases x;cases y;simp_all;done)
 ·intro _ hdx hI;have e:decide (xs=ys)=true:=decide_eq_true (iW hlen hI);simp only [go_sem,seval,aI,hdx,e]
theorem Bh (xs ys:List ck) (hl:xs.length < 4611686018427387904):Abs.Spec Tryz.prog 151 [] [.sl 8 (xs.map ck.cells),.sl 8 (ys.map ck.cells)] [] (.bool (decide (xs=ys))):=by
 refine aU 27 2 [.tmp 4] mixed Tryz.func151 ?_;simp only [go_sem,seval,aI]
 by_cases hlen:xs.length=ys.length
 case neg =>
  have b:((xs.length:Int)==(ys.length:Int))=false:=by rw [beq_eq_false_iff_ne];omega
  have e:decide (xs=ys)=false:=decide_eq_false fun h=>hlen (by rw [h])
  simp only [go_sem,seval,bne,b,e]
 have b:((xs.length:Int)==(ys.length:Int))=true:=by rw [beq_iff_eq];omega
 simp only [go_sem,seval,bne,b,aI];refine aB.walk (S:=Unit) xs.length [0,1] [] (fun i _=>[(5,.int .i64 i)]) (fun i _=>[]) (fun i _=>∀ j (h1:j < xs.length) (h2:j < ys.length),j < i->xs[j]=ys[j]) () (by intros;omega) ?_ ?_ ?_
 ·simp only [go_sem,seval]<;>simp
 ·intro i _ hi hdi hw hI;have hi2:i < ys.length:=by omega
  have hm:=aD (c:=ck.cells) xs hi;have hm2:=aD (c:=ck.cells) ys hi2;have e0:=kI hI hi hi2;have e1:xs[i]≠ys[i]->decide (xs=ys)=false:=fun h=>decide_eq_false fun e=>h (by subst e;rfl)
  have hl1:(i:Int) < (xs.length:Int):=by omega
  have hl2:(i:Int) < (ys.length:Int):=by omega
  obtain ⟨x,hx⟩:=aO (xs[i]);obtain ⟨y,hy⟩:=aO (ys[i]);rw [<- hx] at hm e0 e1;rw [<- hy] at hm2 e0 e1;have hc:=DJ x y;simp only [ck.cells] at *;clear hx hy hI hlen;simp only [go_sem,seval,aI,hdi,hm,hm2]
  repeat' with_reducible first|apply And.intro|exact .dq|refine aa.pure (by assumption) ?_|refine aa.pure (hc) ?_|refine .aH (fun h=>?_) fun h=>?_|refine .aF (fun h=>?_) fun h=>?_|refine .aK (fun h=>?_) fun h=>?_|refine .split (fun h=>?_) fun h=>?_|refine .id ?_|refine ah.next (by omega) ?_ ?_|exact trivial|simp only [*,go_sem,seval,hm,hm2,aI]
  all_goals first
   | omega
   | (refine ah.step () hi (e0 ?_) ?_
      ·clear e0 e1;cases x;cases y;simp_all;done
      ·simp only [go_sem,seval])
   | (rw [e1 ?_];clear e0 e1;cases x;cases y;simp_all;done)
 ·intro _ hdx hI;have e:decide (xs=ys)=true:=decide_eq_true (iW hlen hI);simp only [go_sem,seval,aI,hdx,e]
theorem Cl (a b:aW) (h1:a.Aa.length < 4611686018427387904) (h2:a.falls.length < 4611686018427387904):Abs.Spec Tryz.prog 69 [] [.agg a.cells,.agg b.cells] [] (.bool (decide (a=b))):=by
 have c1:=Ep a.Aa b.Aa h1;have c2:=Bh a.falls b.falls h2;simp only [aW.cells];refine aU 38 2 [.tmp 4] mixed Tryz.func69 ?_;simp only [go_sem,seval]
 repeat' with_reducible first|apply And.intro|exact .dq|refine aa.pure (by assumption) ?_|refine aa.pure (c1) ?_|refine aa.pure (c2) ?_|refine .aH (fun h=>?_) fun h=>?_|refine .aF (fun h=>?_) fun h=>?_|refine .aK (fun h=>?_) fun h=>?_|refine .split (fun h=>?_) fun h=>?_|refine .id ?_|refine ah.next (by omega) ?_ ?_|exact trivial|simp only [*,go_sem,seval]
 all_goals (rw [Bool.eq_iff_iff];cases a;cases b;simp_all)
theorem DB (xs ys:List bu) (hl:xs.length < 4611686018427387904) (hq:∀ x∈xs,x.r.Aa.length < 4611686018427387904/\x.r.falls.length < 4611686018427387904):Abs.Spec Tryz.prog 24 [] [.sl 7 (xs.map bu.cells),.sl 7 (ys.map bu.cells)] [] (.bool (decide (xs=ys))):=by
 refine aU 55 2 [.tmp 4] mixed Tryz.func24 ?_;simp only [go_sem,seval,aI]
 by_cases hlen:xs.length=ys.length
 case neg =>
  have b:((xs.length:Int)==(ys.length:Int))=false:=by rw [beq_eq_false_iff_ne];omega
  have e:decide (xs=ys)=false:=decide_eq_false fun h=>hlen (by rw [h])
  simp only [go_sem,seval,bne,b,e]
 have b:((xs.length:Int)==(ys.length:Int))=true:=by rw [beq_iff_eq];omega
 simp only [go_sem,seval,bne,b,aI];refine aB.walk (S:=Unit) xs.length [0,1] [] (fun i _=>[(5,.int .i64 i)]) (fun i _=>[]) (fun i _=>∀ j (h1:j < xs.length) (h2:j < ys.length),j < i->xs[j]=ys[j]) () (by intros;omega) ?_ ?_ ?_
 ·simp only [go_sem,seval]<;>simp
 ·intro i _ hi hdi hw hI;have hi2:i < ys.length:=by omega
  have hm:=aD (c:=bu.cells) xs hi;have hm2:=aD (c:=bu.cells) ys hi2;have e0:=kI hI hi hi2;have e1:xs[i]≠ys[i]->decide (xs=ys)=false:=fun h=>decide_eq_false fun e=>h (by subst e;rfl)
  have hl1:(i:Int) < (xs.length:Int):=by omega
  have hl2:(i:Int) < (ys.length:Int):=by omega
  obtain ⟨x,hx⟩:=aO (xs[i]);obtain ⟨y,hy⟩:=aO (ys[i]);rw [<- hx] at hm e0 e1;rw [<- hy] at hm2 e0 e1;have hc:=Cl x.r y.r (hq x (by rw [hx];exact List.getElem_mem hi)).1 (hq x (by rw [hx];exact List.getElem_mem hi)).2;simp only [aW.cells] at hc;simp only [bu.cells] at *;clear hx hy hI hlen hq;simp only [go_sem,seval,aI,hdi,hm,hm2]
  repeat' with_reducible first|apply And.intro|exact .dq|refine aa.pure (by assumption) ?_|refine aa.pure (hc) ?_|refine .aH (fun h=>?_) fun h=>?_|refine .aF (fun h=>?_) fun h=>?_|refine .aK (fun h=>?_) fun h=>?_|refine .split (fun h=>?_) fun h=>?_|refine .id ?_|refine ah.next (by omega) ?_ ?_|exact trivial|simp only [*,go_sem,seval,hm,hm2,aI]
  all_goals first
   | omega
   | (refine ah.step () hi (e0 ?_) ?_
      ·clear e0 e1;obtain ⟨x1,x2,⟨x3,x4,x5,x6,x7⟩⟩:=x;obtain ⟨y1,y2,⟨y3,y4,y5,y6,y7⟩⟩:=y;simp_all;done
      ·simp only [go_sem,seval])
   | (rw [e1 ?_];clear e0 e1;obtain ⟨x1,x2,⟨x3,x4,x5,x6,x7⟩⟩:=x;obtain ⟨y1,y2,⟨y3,y4,y5,y6,y7⟩⟩:=y;simp_all;done)
 ·intro _ hdx hI;have e:decide (xs=ys)=true:=decide_eq_true (iW hlen hI);simp only [go_sem,seval,aI,hdx,e]
theorem zI (a b:bn) (hl:a.bs.length < 4611686018427387904):Abs.Spec Tryz.prog 20 [] [.agg a.cells,.agg b.cells] [] (.bool (decide (a.last=b.last)&&decide (a.bs=b.bs))):=by
 simp only [bn.cells];refine aU 56 2 [.tmp 4] mixed Tryz.func20 ?_;simp only [go_sem,seval,aI]
 by_cases h0:a.last=b.last
 case neg =>
  have b0:(a.last==b.last)=false:=by simpa using h0
  have e:decide (a.last=b.last)=false:=decide_eq_false h0;simp only [go_sem,seval,bne,b0,e,Bool.false_and]
 have b0:(a.last==b.last)=true:=by simpa using h0
 have e0:decide (a.last=b.last)=true:=decide_eq_true h0;rw [e0,Bool.true_and]
 by_cases hlen:a.bs.length=b.bs.length
 case neg =>
  have b1:((a.bs.length:Int)==(b.bs.length:Int))=false:=by rw [beq_eq_false_iff_ne];omega
  have e:decide (a.bs=b.bs)=false:=decide_eq_false fun h=>hlen (by rw [h])
  simp only [go_sem,seval,bne,b0,b1,e,aI]
 have b1:((a.bs.length:Int)==(b.bs.length:Int))=true:=by rw [beq_iff_eq];omega
 simp only [go_sem,seval,bne,b0,b1,aI];refine aB.walk (S:=Unit) a.bs.length [2,3] [48,64] (fun i _=>[(5,.int .i64 i)]) (fun i _=>[]) (fun i _=>∀ j (h1:j < a.bs.length) (h2:j < b.bs.length),j < i->a.bs[j]=b.bs[j]) () (by intros;omega) ?_ ?_ ?_
 ·simp only [go_sem,seval]<;>simp
 ·intro i _ hi hdi hw hI;have hi2:i < b.bs.length:=by omega
  have hm:=aD (c:=bJ.cells) a.bs hi;have hm2:=aD (c:=bJ.cells) b.bs hi2;have e0:=kI hI hi hi2;have e1:a.bs[i]≠b.bs[i]->decide (a.bs=b.bs)=false:=fun h=>decide_eq_false fun e=>h (by simp only [e])
  have hl1:(i:Int) < (a.bs.length:Int):=by omega
  have hl2:(i:Int) < (b.bs.length:Int):=by omega
  obtain ⟨x,hx⟩:=aO (a.bs[i]);obtain ⟨y,hy⟩:=aO (b.bs[i]);rw [<- hx] at hm e0 e1;rw [<- hy] at hm2 e0 e1;have hc:=Dz x.bK y.bK;simp only [bJ.cells,aJ.cells,bJ.bK] at *;clear hx hy hI hlen;simp only [go_sem,seval,aI,hdi,hm,hm2]
  repeat' with_reducible first|apply And.intro|exact .dq|refine aa.pure (by assumption) ?_|refine aa.pure (hc) ?_|refine .aH (fun h=>?_) fun h=>?_|refine .aF (fun h=>?_) fun h=>?_|refine .aK (fun h=>?_) fun h=>?_|refine .split (fun h=>?_) fun h=>?_|refine .id ?_|refine ah.next (by omega) ?_ ?_|exact trivial|simp only [*,go_sem,seval,hm,hm2,aI]
  all_goals first
   | omega
   | (refine ah.step () hi (e0 ?_) ?_
      ·clear e0 e1;cases x;cases y;simp_all;done
      ·simp only [go_sem,seval])
   | (rw [e1 ?_];clear e0 e1;cases x;cases y;simp_all;done)
 ·intro _ hdx hI;have e:decide (a.bs=b.bs)=true:=decide_eq_true (iW hlen hI);simp only [go_sem,seval,aI,hdx,e]
theorem D3 (a b:aq) (h:a.small):Abs.Spec Tryz.prog 18 [] [.agg a.cells,.agg b.cells] [] (.bool (decide (a.ms=b.ms)&&(decide (a.ns=b.ns)&&decide (a.xs=b.xs)))):=by
 obtain ⟨l1,l2,l3⟩:=h;have c1:=yd a.ms b.ms (by omega);have c2:=CL a.ns b.ns (by omega);have c3:=Ab a.xs b.xs (by omega);simp only [aq.cells];refine aU 24 2 [.tmp 4] mixed Tryz.func18 ?_;simp only [go_sem,seval]
 repeat' with_reducible first|apply And.intro|exact .dq|refine aa.pure (by assumption) ?_|refine aa.pure (c1) ?_|refine aa.pure (c2) ?_|refine aa.pure (c3) ?_|refine .aH (fun h=>?_) fun h=>?_|refine .aF (fun h=>?_) fun h=>?_|refine .aK (fun h=>?_) fun h=>?_|refine .split (fun h=>?_) fun h=>?_|refine .id ?_|refine ah.next (by omega) ?_ ?_|exact trivial|simp only [*,go_sem,seval]
 all_goals (simp_all)
theorem DZ (a b:aG) (h:a.small):Abs.Spec Tryz.prog 19 [] [.agg a.cells,.agg b.cells] [] (.bool (decide (a.next=b.next)&&(decide (a.ts=b.ts)&&decide (a.qs=b.qs)))):=by
 obtain ⟨l1,l2⟩:=h;have c1:=zW a.ts b.ts (by omega);have c2:=Eu a.qs b.qs (by omega);simp only [aG.cells];refine aU 24 2 [.tmp 4] mixed Tryz.func19 ?_;simp only [go_sem,seval]
 repeat' with_reducible first|apply And.intro|exact .dq|refine aa.pure (by assumption) ?_|refine aa.pure (c1) ?_|refine aa.pure (c2) ?_|refine .aH (fun h=>?_) fun h=>?_|refine .aF (fun h=>?_) fun h=>?_|refine .aK (fun h=>?_) fun h=>?_|refine .split (fun h=>?_) fun h=>?_|refine .id ?_|refine ah.next (by omega) ?_ ?_|exact trivial|simp only [*,go_sem,seval]
 all_goals (rw [Bool.eq_iff_iff];simp_all)
def MO (a b:af):Bool:=decide (a.now=b.now/\a.day=b.day/\a.phase=b.phase)&&((decide (a.aj.ms=b.aj.ms)&&(decide (a.aj.ns=b.aj.ns)&&decide (a.aj.xs=b.aj.xs)))&&((decide (a.book.next=b.book.next)&&(decide (a.book.ts=b.book.ts)&&decide (a.book.qs=b.book.qs))) &&
 ((decide (a.bE.last=b.bE.last)&&decide (a.bE.bs=b.bE.bs))&&(decide (a.ps=b.ps)&&(decide (a.calls=b.calls)&&(decide (a.aT=b.aT)&&decide (a.aM=b.aM)))))))
theorem CH (a b:af) (h:a.small):Abs.Spec Tryz.prog 8 [] [.agg a.cells,.agg b.cells] [] (.bool (MO a b)):=by
 have c1:=BY a.now a.day a.phase b.now b.day b.phase;have c2:=D3 a.aj b.aj h.aj.small;have c3:=DZ a.book b.book h.book;have c4:=zI a.bE b.bE (by have:=h.bE;omega);have c5:=OR a.ps b.ps (by have:=h.ps;omega);have c6:=DE a.calls b.calls (by have:=h.calls;omega);have c7:=Ec a.aT b.aT (by have:=h.aT;omega);have c8:=DB a.aM b.aM (by have:=h.aM;omega) (fun x hx=>by have:=h.rs x hx;unfold aW.fits at this;omega);simp only [aq.cells,aG.cells,bn.cells] at c2 c3 c4;obtain ⟨q1,e1⟩:∃ q,q=decide (a.now=b.now/\a.day=b.day/\a.phase=b.phase):=⟨_,rfl⟩
 obtain ⟨q2,e2⟩:∃ q,q=(decide (a.aj.ms=b.aj.ms)&&(decide (a.aj.ns=b.aj.ns)&&decide (a.aj.xs=b.aj.xs))):=⟨_,rfl⟩
 obtain ⟨q3,e3⟩:∃ q,q=(decide (a.book.next=b.book.next)&&(decide (a.book.ts=b.book.ts)&&decide (a.book.qs=b.book.qs))):=⟨_,rfl⟩
 obtain ⟨q4,e4⟩:∃ q,q=(decide (a.bE.last=b.bE.last)&&decide (a.bE.bs=b.bE.bs)):=⟨_,rfl⟩
 simp only [af.cells,MO];rw [<- e1] at c1 |-;rw [<- e2] at c2 |-;rw [<- e3] at c3 |-;rw [<- e4] at c4 |-;clear e1 e2 e3 e4 h;refine aU 59 2 [.tmp 4] mixed Tryz.func8 ?_;simp only [go_sem,seval];refine aa.pure c1 ?_;cases q1
 ·simp only [go_sem,seval,Bool.false_and]
 simp only [go_sem,seval];refine aa.pure c2 ?_;cases q2
 ·simp only [go_sem,seval,Bool.false_and,Bool.true_and]
 simp only [go_sem,seval];refine aa.pure c3 ?_;cases q3
 ·simp only [go_sem,seval,Bool.false_and,Bool.true_and]
 simp only [go_sem,seval];refine aa.pure c4 ?_;cases q4
 ·simp only [go_sem,seval,Bool.false_and,Bool.true_and]
 simp only [go_sem,seval];refine aa.pure c5 ?_;cases q5:decide (a.ps=b.ps)
 ·simp only [go_sem,seval,Bool.false_and,Bool.true_and]
 simp only [go_sem,seval];refine aa.pure c6 ?_;cases q6:decide (a.calls=b.calls)
 ·simp only [go_sem,seval,Bool.false_and,Bool.true_and]
 simp only [go_sem,seval];refine aa.pure c7 ?_;cases q7:decide (a.aT=b.aT)
 ·simp only [go_sem,seval,Bool.false_and,Bool.true_and]
 simp only [go_sem,seval];refine aa.pure c8 ?_;simp only [go_sem,seval,Bool.true_and]
theorem LN (a:af):MO a a=true:=by simp [MO]
end Go.Proofs.YtacacccbcndjoaaGreat
