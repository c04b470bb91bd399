/- The reference's margin, and what follows. No theorem of a claim. -/
import Derived.Test.YtnkobepdbkmedaaGreatKC
import Derived.Test.YtnkobepdbkmedaaGreatKA
set_option linter.unusedSimpArgs false
set_option linter.unusedVariables false
set_option maxHeartbeats 4000000
set_option maxRecDepth 16000
namespace Go.Proofs.YtnkobepdbkmedaaGreat
open Go.Abs
theorem RX (p:aA):within p.aV (-1099511627776) 1099511627776=xE p:=by
 rw [Bool.eq_iff_iff];simp [within,xE]
theorem P5 (j:Nat) (p:gH):-p.q*(p.i.mult*p.i.sh j)=rL j p:=by rw [rL,Int.mul_assoc]
theorem BD (r:au) (w c:Int) (qs:List aA) (hr:r.small) (hq:qs.length < 2 ^ 30):Abs.Spec Tryz.prog 219 [] [.agg r.cells,.int .i64 w,.int .i64 c,.sl 4 (qs.map aA.cells)] [] (.bI [.agg (DP r w c qs),.int .i64 (uw r w c qs)]):=by
 have h2:=dK r hr;have h5:=fun n=>dc r n hr
 have hz0:=qJ [];simp only [au.cells] at h2 h5 |-;refine bg 115 4 [.cell 8 60,.tmp 9] mixed Tryz.func219 ?_;simp only [go_sem,seval];refine aa.pure h2 ?_;cases b2:r.okB
 ·have e:Pf r qs=14:=by simp [Pf,b2]
  have e1:uw r w c qs=14:=by simp [uw,e]
  have e2:DP r w c qs=fM [] 0:=by simp [DP,e1]
  rw [e1,e2,hz0];simp only [go_sem,seval]
 simp only [go_sem,seval,aG];refine aC.walk (S:=Unit) qs.length [1,2,3,4,8,10] [80,144,176] (fun i _=>[(11,.int .i64 i)]) (fun i _=>[]) (fun i _=>∀ j (hj:j < qs.length),j < i->xE qs[j]=true) () (by intros;omega) ?_ ?_ ?_
 ·simp only [go_sem,seval]<;>simp
 ·intro i _ hi hdi hwi hI;have hm:=aD (c:=aA.cells) qs hi;have hv:=eM qs[i].aV (-1099511627776) 1099511627776;rw [RX] at hv;simp only [aA.cells] at hm;simp only [go_sem,seval,aG,hdi,hm];(with_reducible and_intros)<;>first|exact .dq|omega|skip
  refine aa.pure hv ?_;cases hb:xE qs[i]
  ·have:qs.all xE=false:=by
    cases hc:qs.all xE
    ·rfl
    ·rw [List.all_eq_true.1 hc _ (List.getElem_mem hi)] at hb;cases hb
   have e:Pf r qs=3:=by simp [Pf,b2,this]
   have e1:uw r w c qs=3:=by simp [uw,e]
   have e2:DP r w c qs=fM [] 0:=by simp [DP,e1]
   rw [e1,e2,hz0];simp only [go_sem,seval]
  ·simp only [go_sem,seval,hwi];refine ah.step () hi ?_ ?_
   ·intro j hj hji;rcases Nat.lt_or_ge j i with h | h
    ·exact hI j hj h
    ·obtain rfl:j=i:=by omega
     exact hb
   ·simp only [go_sem,seval]
 intro _ hdx hI
 have hall:qs.all xE=true:=List.all_eq_true.2 fun p hp=>by
  obtain ⟨j,hj,rfl⟩:=List.mem_iff_getElem.1 hp;exact hI j hj hj
 have hE:Pf r qs=0:=by simp [Pf,b2,hall]
 have hpo:=I9 (w:=w) (c:=c) hE;have hpl:=AO r w c qs;have e2:uw r w c qs=if l8 (mW r w c qs) then 1 else 0:=by simp [uw,hE]
 simp only [DP,e2];clear e2 hI;have hz:=qJ (mW r w c qs);simp only [go_sem,seval,aG,hdx];clear hdx;refine aC.walk (S:=Unit) 6 [1,2,3,4,8,10] [80,144] (fun i _=>[(12,.int .i64 i)]) (fun i _=>[(176,.box (fM (mW r w c qs) i))]) (fun i _=>∀ j < i,bP (kZ (mW r w c qs) j)=true) () (by intros;omega) ?_ ?_ ?_
 ·simp only [go_sem,seval,hz]<;>simp
 ·intro j _ hj hdj hwj hI;have hdj:decide ((j:Int) < 6)=true:=hdj;have hall2:=SQ hpo j (by omega);have hset:=JC (mW r w c qs) hj;obtain ⟨B,hB⟩:=aL (fM (mW r w c qs) j);have hBl:B.length=6:=by rw [hB];rfl
  have hleaf1:∀ d∈fM (mW r w c qs) (j+1),sY d=true:=by simp [fM,je,sY]
  have hleaf:∀ d∈B,sY d=true:=by rw [hB];simp [fM,je,sY]
  rw [<- hB] at hset |-;simp only [go_sem,seval,hdj];refine aC.walk (S:=Unit) qs.length [1,2,3,4,8,10,12] [80,144,176] (fun i _=>[(14,.int .i64 i),(13,.ref 1504)]) (fun i _=>[(1504,.own 2 (kD ((mW r w c (qs.take i)).map (rL j))))]) (fun i _=>True) () trivial ?_ ?_ ?_
  ·simp only [go_sem,seval]<;>simp [kD,mW,gv hleaf,oh hleaf]
  ·intro i _ hi hdi hwi _;have hm:=aD (c:=aA.cells) qs hi;have hs:=I1 r w c qs hi;have hlen:=AO r w c (qs.take i);have hlt:(qs.take i).length=i:=by simp;omega
   have hA:=h5 qs[i].inst;obtain ⟨x,hx⟩:=aL (aT r qs[i].inst);have hxok:bf r qs[i].inst=true->x.ok=true:=fun h=>by rw [hx];exact ue b2 h
   have hqty:=List.all_eq_true.1 hall qs[i] (List.getElem_mem hi);have hwl:(kD ((mW r w c (qs.take i)).map (rL j))).length<=i:=by simp [kD];omega
   have hlI:(i:Int) < (qs.length:Int):=by omega
   simp only [FH,<- hx] at hs;rw [<- hx] at hA;simp only [aA.cells] at hm;simp only [aq.cells] at hA;simp only [go_sem,seval,aG,hdi,hm];(with_reducible and_intros)<;>first|exact .dq|omega|skip
   refine aa.pure hA ?_;cases p1:bf r qs[i].inst
   ·simp only [p1,Bool.false_and,fY,if_false] at hs;simp only [go_sem,seval,aG,p1,hwi];(with_reducible and_intros)<;>first|exact .dq|omega|skip
    refine ah.step () hi trivial ?_;simp only [go_sem,seval,hs]<;>simp [gv hleaf,oh hleaf]
   cases p2:qs[i].who==w
   ·simp only [p1,p2,Bool.false_and,Bool.true_and,fY,if_false] at hs;simp only [go_sem,seval,aG,hm,p1,p2,hwi];(with_reducible and_intros)<;>first|exact .dq|omega|skip
    refine ah.step () hi trivial ?_;simp only [go_sem,seval,hs]<;>simp [gv hleaf,oh hleaf]
   cases p3:x.cur==c
   ·simp only [p1,p2,p3,Bool.and_false,Bool.true_and,fY,if_false] at hs;simp only [go_sem,seval,aG,hm,p1,p2,p3,hwi];(with_reducible and_intros)<;>first|exact .dq|omega|skip
    refine ah.step () hi trivial ?_;simp only [go_sem,seval,hs]<;>simp [gv hleaf,oh hleaf]
   simp only [p1,p2,p3,Bool.and_self,if_true] at hs;have hk:=hxok p1;obtain ⟨⟨m1,m2⟩,-⟩:=oa hk;have hsr:=B1 hk j;simp only [xE,bZ,Bool.not_eq_true',decide_eq_false_iff_not] at hqty;have hsa:=abD ⟨x,qs[i].aV⟩ hj;have r1:=eT (a:=x.mult) (b:=x.sh j) (A:=1024) (B:=1073741824) (by omega) hsr;have r1:-1099511627776<=x.mult*x.sh j/\x.mult*x.sh j<=1099511627776:=r1;have w1:IntKind.wrap .i64 (0-qs[i].aV) = -qs[i].aV:=by rw [bz (by omega) (by omega)];omega
   have w2:IntKind.wrap .i64 (x.mult*x.sh j)=x.mult*x.sh j:=bz (by omega) (by omega);have ht:=lP (-qs[i].aV) (x.mult*x.sh j) ⟨by omega,by omega⟩ ⟨by omega,by omega⟩;have hF:-qs[i].aV*(x.mult*x.sh j)=rL j ⟨x,qs[i].aV⟩:=P5 j ⟨x,qs[i].aV⟩;rw [hF] at ht;simp only [wd] at ht
   have hix2:(List.drop (6+j*1) x.cells).headD .undef=.int .i64 (x.sh j):=by
    rcases j with _ | _ | _ | _ | _ | _ | j<;>first | rfl | omega
   simp only [aq.cells] at hix2;simp only [go_sem,seval,aG,hm,p1,p2,p3,hwi,w1,hix2,w2];(with_reducible and_intros)<;>first|exact .dq|omega|skip
   refine aa.pure ht ?_;simp only [go_sem,seval,hwi];(with_reducible and_intros)<;>first|exact .dq|omega|skip
   refine ah.step () hi trivial ?_;simp only [go_sem,seval,hs]<;>simp [wd,kD,gv hleaf,oh hleaf]
  ·intro _ hdx _;have hs:=jW ((mW r w c qs).map (rL j)) (by simp;omega) hall2.1;have hI2:=jU (kZ (mW r w c qs) j);have e:az ((mW r w c qs).map (rL j))=kZ (mW r w c qs) j:=rfl;rw [e,hall2.2,if_pos rfl] at hs;obtain ⟨S,hS⟩:=aL (kZ (mW r w c qs) j);rw [<- hS] at hs hI2 hset
   have hgood:bP S=true->∀ k < j+1,bP (kZ (mW r w c qs) k)=true:=fun hx k hk=>by
    rcases Nat.lt_or_ge k j with h | h
    ·exact hI k h
    ·obtain rfl:k=j:=by omega
     rw [<- hS];exact hx
   have hbad:bP S=false->l8 (mW r w c qs)=true:=fun hx=>by
    simp only [l8,List.any_eq_true,List.mem_range];exact ⟨j,hj,by rw [<- hS,hx];rfl⟩
   simp only [wd] at hs hI2;simp only [go_sem,seval,aG,hdx,List.take_length];refine aa.gen [] [] true (by simp) ?_;simp only [go_sem,seval];refine aY.intro hs ?_;simp only [go_sem,seval];refine aa.pure hI2 ?_;cases hi:bP S
   ·have hb:=hbad hi;simp only [go_sem,seval,hi,hb,fM,je]
   ·simp only [go_sem,seval] at hset;simp only [go_sem,seval,hi,hset,hwj];(with_reducible and_intros)<;>first|exact .dq|omega|skip
    refine ah.step () hj (hgood hi) ?_;simp only [go_sem,seval];exact gv hleaf1
 ·intro _ hdx hI;have hdx:decide ((6:Int) < 6)=false:=hdx
  have hb:l8 (mW r w c qs)=false:=by
   simp only [l8,List.any_eq_false,List.mem_range];intro k hk;simp [hI k hk]
  simp only [go_sem,seval,hdx,hb,fM,je]
theorem Cw (r:au) (w c:Int) (qs:List aA) (hr:r.small) (hq:qs.length < 2 ^ 30):Abs.Spec Tryz.prog 195 [] [.agg r.cells,.int .i64 w,.int .i64 c,.sl 4 (qs.map aA.cells)] [] (.bI [.int .i64 (zE r w c qs),.int .i64 (AV r w c qs)]):=by
 have hL:=BD r w c qs hr hq;have h5:=fun n=>dc r n hr
 simp only [au.cells] at hL h5 |-;refine bg 114 4 [.tmp 8,.tmp 9] mixed Tryz.func195 ?_;simp only [go_sem,seval];refine aa.pure hL ?_
 by_cases hE:uw r w c qs=0
 case neg =>
  have b1:(uw r w c qs != 0)=true:=by simpa using hE
  have e1:AV r w c qs=uw r w c qs:=by simp [AV,hE]
  have e2:zE r w c qs=0:=by simp [zE,hE]
  have e3:DP r w c qs=fM [] 0:=by simp [DP,hE]
  rw [e1,e2,e3,qJ];simp only [go_sem,seval,b1]
 obtain ⟨hpc,hbad⟩:=Of hE;have hpo:=I9 (w:=w) (c:=c) hpc;have hpl:=AO r w c qs
 have hko:r.okB=true/\qs.all xE=true:=by
  unfold Pf at hpc;split at hpc
  ·rename_i h1;split at hpc
   ·rename_i h2;exact ⟨h1,h2⟩
   ·cases hpc
  ·cases hpc
 have e2:AV r w c qs=if bP (IV (mW r w c qs)) then 0 else 1:=by simp [AV,hE]
 have e3:zE r w c qs=if bP (IV (mW r w c qs)) then IV (mW r w c qs) else 0:=by simp [zE,hE]
 have e4:DP r w c qs=[.int .i64 (kZ (mW r w c qs) 0),.int .i64 (kZ (mW r w c qs) 1),.int .i64 (kZ (mW r w c qs) 2),.int .i64 (kZ (mW r w c qs) 3),.int .i64 (kZ (mW r w c qs) 4),.int .i64 (kZ (mW r w c qs) 5)]:=by simp [DP,hE,fM,je]
 rw [e2,e3,e4];clear e2 e3 e4 hL;have hin:=Lx hbad;obtain ⟨T,hT⟩:=aL (IV (mW r w c qs));rw [<- hT];simp only [IV] at hT;obtain ⟨L,hLd⟩:=aL (kZ (mW r w c qs));rw [<- hLd] at hin hT |-;simp only [go_sem,seval,hE];refine aC.walk (S:=Unit) 6 [1,2,3,4,10] [80,176] (fun i _=>[(13,.int .i64 i),(12,.int .i64 (uC L i))]) (fun i _=>[]) (fun i _=>True) () trivial ?_ ?_ ?_
 ·simp only [go_sem,seval]<;>simp [uC]
 ·intro i _ hi hdi hwi _;have hdi:decide ((i:Int) < 6)=true:=hdi;have hsx:=Ro L hi;simp only [go_sem,seval,hdi,hsx,hwi];(with_reducible and_intros)<;>first|exact .dq|omega|skip
  refine ah.step () hi trivial ?_;simp only [go_sem,seval,uC]
 intro _ hdx _;have hdx:decide ((6:Int) < 6)=false:=hdx;have hmr:=IB (f:=L) 6 hin;obtain ⟨M,hM⟩:=aL (uC L 6);rw [<- hM] at hmr hT |-;have hO:=qN M (by omega);simp only [wd] at hO;simp only [go_sem,seval,hdx];refine aa.pure hO ?_;simp only [go_sem,seval,aG];refine aC.walk (S:=Unit) qs.length [1,2,3,4] [80] (fun i _=>[(15,.int .i64 i),(14,.ref 1552)]) (fun i _=>[(1552,.own 2 (kD (M :: (mW r w c (qs.take i)).map JI)))]) (fun i _=>True) () trivial ?_ ?_ ?_
 ·simp only [go_sem,seval]<;>simp [kD,wd,mW]
 ·intro i _ hi hdi hwi _;have hm:=aD (c:=aA.cells) qs hi;have hs:=I1 r w c qs hi;have hlen:=AO r w c (qs.take i);have hlt:(qs.take i).length=i:=by simp;omega
  have hA:=h5 qs[i].inst;obtain ⟨x,hx⟩:=aL (aT r qs[i].inst);have hxok:bf r qs[i].inst=true->x.ok=true:=fun h=>by rw [hx];exact ue hko.1 h
  have hqty:=List.all_eq_true.1 hko.2 qs[i] (List.getElem_mem hi);have hwl:(kD (M :: (mW r w c (qs.take i)).map JI)).length<=i+1:=by simp [kD];omega
  have hlI:(i:Int) < (qs.length:Int):=by omega
  simp only [FH,<- hx] at hs;rw [<- hx] at hA;simp only [aA.cells] at hm;simp only [aq.cells] at hA;simp only [go_sem,seval,aG,hdi,hm];(with_reducible and_intros)<;>first|exact .dq|omega|skip
  refine aa.pure hA ?_;cases p1:bf r qs[i].inst
  ·simp only [p1,Bool.false_and,fY,if_false] at hs;simp only [go_sem,seval,aG,p1,hwi];(with_reducible and_intros)<;>first|exact .dq|omega|skip
   refine ah.step () hi trivial ?_;simp only [go_sem,seval,hs]
  cases p2:qs[i].who==w
  ·simp only [p1,p2,Bool.false_and,Bool.true_and,fY,if_false] at hs;simp only [go_sem,seval,aG,hm,p1,p2,hwi];(with_reducible and_intros)<;>first|exact .dq|omega|skip
   refine ah.step () hi trivial ?_;simp only [go_sem,seval,hs]
  cases p3:x.cur==c
  ·simp only [p1,p2,p3,Bool.and_false,Bool.true_and,fY,if_false] at hs;simp only [go_sem,seval,aG,hm,p1,p2,p3,hwi];(with_reducible and_intros)<;>first|exact .dq|omega|skip
   refine ah.step () hi trivial ?_;simp only [go_sem,seval,hs]
  simp only [p1,p2,p3,Bool.and_self,if_true] at hs;have hk:=hxok p1;obtain ⟨-,g1,g2⟩:=oa hk;simp only [xE,bZ,Bool.not_eq_true',decide_eq_false_iff_not] at hqty;have w1:IntKind.wrap .i64 (0-qs[i].aV) = -qs[i].aV:=by rw [bz (by omega) (by omega)];omega
  have ht:=lP (max qs[i].aV (-qs[i].aV)) x.add ⟨by omega,by omega⟩ ⟨by omega,by omega⟩;have hF:max qs[i].aV (-qs[i].aV)*x.add=JI ⟨x,qs[i].aV⟩:=rfl;rw [hF] at ht;simp only [wd] at ht;simp only [go_sem,seval,aG,hm,p1,p2,p3,hwi,w1];(with_reducible and_intros)<;>first|exact .dq|omega|skip
  refine aa.pure ht ?_;simp only [go_sem,seval,hwi];(with_reducible and_intros)<;>first|exact .dq|omega|skip
  refine ah.step () hi trivial ?_;simp only [go_sem,seval,hs]<;>simp [wd,kD]
 ·intro _ hdx _
  have hb:∀ n∈M :: (mW r w c qs).map JI,-1208925819614629174706176<=n/\n<=1208925819614629174706176:=by
   intro n hn;rcases List.mem_cons.1 hn with rfl | hn
   ·omega
   ·obtain ⟨p,hp,rfl⟩:=List.mem_map.1 hn;exact LK (hpo p hp)
  have hs:=jW (M :: (mW r w c qs).map JI) (by simp;omega) (fun n hn=>sP (hb n hn) (by omega));have h2:=vL (B:=1208925819614629174706176) hb;rw [<- hT] at hs h2;simp only [List.length_cons,aG] at h2;have hin2:pg T=true:=sP (B:=1208925819614629174706176*(((mW r w c qs).length+1:Nat):Int)) h2 (by omega);have hI2:=jU T;rw [hin2,if_pos rfl] at hs;simp only [wd] at hs hI2;simp only [go_sem,seval,aG,hdx,List.take_length];refine aa.gen [] [] true (by simp) ?_;simp only [go_sem,seval];refine aY.intro hs ?_;simp only [go_sem,seval];refine aa.pure hI2 ?_;cases hi:bP T<;>simp only [go_sem,seval,hi]<;>simp
theorem Spec.frozen {P:Program} {f:FuncId} {ds hs':List D} {d:D} (h:Abs.Spec P f [] ds hs' d) (fz:List Nat) {hs2:List D} {d2:D} (hd:(dN fz (sq [(0,d)] (qI 0 hs'))).t 0=d2) (ho:∀ r,(dN fz (sq [(0,d)] (qI 0 hs'))).o r=hs2.getD r .undef):Abs.Spec P f [] ds hs2 d2:=by
 refine ⟨h.1,?_⟩;intro w l0 G0 own0 S0 vs hT hl0 hG hsz hr hobj;refine (h.2 w l0 G0 own0 S0 vs hT hl0 hG hsz hr hobj).mono ?_
 rintro e w' ⟨v,rfl,o⟩
 refine ⟨v,rfl,o.os,o.tape,o.output,o.size,o.old,o.part,?_⟩;obtain ⟨lev,own,S,h1,h2,h3,h4,_⟩:=o.rep
 have hi:Inv w l0 G0 S w' lev own S (sq [(0,d)] (qI 0 hs')) (fun j=>if j=0 then v else Go.undef):=by
  refine ⟨⟨o.os,hT⟩,o.tape,o.output,o.size,o.old,o.part,h1,h2,fun _ _ _=>rfl,?_,?_⟩
  ·intro s
   show aE _ _ (Abs.look [(0,d)] s)
   by_cases hs:s=0
   ·subst hs;simpa [Abs.look] using h3
   ·simp only [Abs.look,if_neg hs];exact .undef _
  ·intro r
   show jO _ _ _ _ _ _ r (Abs.look (qI 0 hs') r)
   rw [n7];simpa using h4 r
 obtain ⟨lev',S',hi'⟩:=Inv.Rv fz hi (fun _ _=>trivial);refine ⟨lev',own,S',hi'.priv,hi'.iq,?_,?_,fun i h=>by cases h⟩
 ·have:=hi'.lp 0;rw [hd] at this;simpa using this
 ·intro r;have:=hi'.objs r
  rwa [ho] at this
def au.jk (r:au):Prop:=r.ms.length < 2 ^ 30/\r.ns.length < 2 ^ 30/\r.xs.length < 2 ^ 30
theorem au.jk.small {r:au} (h:r.jk):r.small:=⟨by have:=h.1;omega,by have:=h.2.1;omega,by have:=h.2.2;omega⟩
theorem mh (r:au) (hr:r.jk):Abs.Spec Tryz.prog 10 [] [.agg r.cells] [.own 3 (r.ms.map ak.cells),.own 12 (r.ns.map aq.cells),.own 4 (r.xs.map av.cells)] (.agg [.ref 0,.ref 1,.ref 2]):=by
 obtain ⟨l1,l2,l3⟩:=hr;simp only [au.cells];refine bg 23 1 [.cell 2 29] mixed Tryz.func10 ?_;simp only [go_sem,seval,aG];omega
theorem o7 (b:aF) (hb:b.small):Abs.Spec Tryz.prog 11 [] [.agg b.cells] [.own 7 (b.ts.map aI.cells),.own 4 (b.qs.map aA.cells)] (.agg [.int .i64 b.next,.ref 0,.ref 1]):=by
 obtain ⟨l1,l2⟩:=hb;simp only [aF.cells];refine bg 20 1 [.cell 2 33] mixed Tryz.func11 ?_;simp only [go_sem,seval,aG];omega
theorem GL (l:bq) (hl:l.bs.length < 2 ^ 30):Abs.Spec Tryz.prog 12 [] [.agg l.cells] [.own 4 (l.bs.map bp.cells)] (.agg [.int .i64 l.last,.ref 0]):=by
 simp only [bq.cells];refine bg 14 1 [.cell 2 36] mixed Tryz.func12 ?_;simp only [go_sem,seval,aG];omega
theorem B5 (x:bk) (h:x.fits):Abs.Spec Tryz.prog 13 [] [.agg x.cells] [.own 3 (x.DW.map aN.cells),.own 8 (x.falls.map dM.cells)] (.agg [.int .i64 x.code,.int .i64 x.no,.int .i64 x.bW,.ref 0,.ref 1]):=by
 obtain ⟨h1,h2⟩:=h;simp only [bk.cells];refine bg 24 1 [.cell 2 67] mixed Tryz.func13 ?_;simp only [go_sem,seval,aG];omega
theorem lI (x:bk) (h:x.fits):Abs.Spec Tryz.prog 13 [] [.agg x.cells] [] (.agg x.cells):=by
 refine Spec.frozen (B5 x h) [0,1] ?_ ?_
 ·simp only [bk.cells];rfl
 ·intro r;rcases r with _ | _ | r
  ·rfl
  ·rfl
  ·rfl
structure af.small (s:af):Prop where
 aj:s.aj.jk
 book:s.book.small
 aU:s.aU.bs.length < 2 ^ 30
 ps:s.ps.length < 2 ^ 30
 calls:s.calls.length < 2 ^ 30
 aX:s.aX.length < 2 ^ 30
 aJ:s.aJ.length < 2 ^ 30
 rs:∀ x∈s.aJ,x.r.fits
def yg (s:af):List D:=[.int .i64 s.now,.int .i64 s.day,.int .i64 s.phase,.ref 0,.ref 1,.ref 2,.int .i64 s.book.next,.ref 3,.ref 4,.int .i64 s.aU.last,.ref 5,.ref 6,.ref 7,.ref 8,.ref 9]
def Ep (s:af):List D:=[.own 3 (s.aj.ms.map ak.cells),.own 12 (s.aj.ns.map aq.cells),.own 4 (s.aj.xs.map av.cells),.own 7 (s.book.ts.map aI.cells),.own 4 (s.book.qs.map aA.cells),.own 4 (s.aU.bs.map bp.cells),.own 3 (pl s.ps),.own 4 (s.calls.map aB.cells),.own 5 (s.aX.map bu.cells),.own 7 (s.aJ.map bE.cells)]
theorem kj (s:af) (hs:s.small):Abs.Spec Tryz.prog 5 [] [.agg s.cells] (Ep s) (.agg (yg s)):=by
 have h1:=mh s.aj hs.aj;have h2:=o7 s.book hs.book;have h3:=GL s.aU hs.aU;have e1:=hs.ps;have e2:=hs.calls;have e3:=hs.aX;have e4:=hs.aJ;simp only [au.cells] at h1;simp only [aF.cells] at h2;simp only [bq.cells] at h3;simp only [af.cells,Ep,yg];refine bg 68 1 [.cell 2 42] mixed Tryz.func5 ?_;simp only [go_sem,seval];(with_reducible and_intros)<;>first|exact .dq|omega|skip
 refine aa.gen [] [] false (by simp) ?_;simp only [go_sem,seval];refine aY.intro h1 ?_;simp only [go_sem,seval];(with_reducible and_intros)<;>first|exact .dq|omega|skip
 refine aa.gen [] [] false (by simp) ?_;simp only [go_sem,seval];refine aY.intro h2 ?_;simp only [go_sem,seval];(with_reducible and_intros)<;>first|exact .dq|omega|skip
 refine aa.gen [] [] false (by simp) ?_;simp only [go_sem,seval];refine aY.intro h3 ?_;simp only [go_sem,seval,aG];(with_reducible and_intros)<;>first|exact .dq|omega|skip
 refine aC.walk (S:=Unit) s.aJ.length [1,2,3] [32,48,160,161,162,208,209,256,352,448,544] (fun i _=>[(4,.int .i64 i)])
  (fun i _=>[(64,.box [.int .i64 s.now,.int .i64 s.day,.int .i64 s.phase,.ref 160,.ref 161,.ref 162,.int .i64 s.book.next,.ref 208,.ref 209,.int .i64 s.aU.last,.ref 256,.ref 352,.ref 448,.ref 544,.ref 1056]),(1056,.own 7 ((s.aJ.take i).map bE.cells))]) (fun _ _=>True) () trivial ?_ ?_ ?_
 ·simp only [go_sem,seval]<;>simp
 ·intro i _ hi hdi hwi _;have hm:=aD (c:=bE.cells) s.aJ hi;have hr:=lI s.aJ[i].r (hs.rs _ (List.getElem_mem hi))
  have hnext:(s.aJ.take (i+1)).map bE.cells=(s.aJ.take i).map bE.cells++[s.aJ[i].cells]:=by
   rw [List.take_succ_eq_append_getElem hi,List.map_append,List.map_cons,List.map_nil]
  have hlt:((s.aJ.take i).map bE.cells).length=i:=by simp;omega
  simp only [bE.cells] at hm;simp only [bk.cells] at hr;simp only [go_sem,seval,hdi,hm,aG];(with_reducible and_intros)<;>first|exact .dq|omega|skip
  refine aa.pure hr ?_;simp only [go_sem,seval,hwi,hlt];(with_reducible and_intros)<;>first|exact .dq|omega|skip
  refine ah.step () hi trivial ?_;simp only [go_sem,seval,hnext,bE.cells]
 ·intro _ hdx _;have ht:(s.aJ.take s.aJ.length).map bE.cells=s.aJ.map bE.cells:=by rw [List.take_length]
  simp only [go_sem,seval,hdx,aG,ht]
def aH.same (x y:aH):Bool:=x.kind==y.kind&&(x.who==y.who&&x.cur==y.cur)
theorem mq {x y:aH}:x.less y=true ↔ x.kind < y.kind\/(x.kind=y.kind/\(x.who < y.who\/(x.who=y.who/\x.cur < y.cur))):=by
 unfold aH.less;split
 ·simp;omega
 ·split<;>simp<;>omega
theorem IW {bs:List bp} (h:j3 bs=true):bs.Pairwise (fun x y=>x.bH.less y.bH=true):=by
 rw [List.pairwise_iff_getElem]
 have step:∀ k (hk:k+1 < bs.length),bs[k].bH.less bs[k+1].bH=true:=fun k hk=>by
  have:=List.all_eq_true.1 h (k+1) (List.mem_range.2 hk);rw [iJ hk,bZ] at this;exact this.2
 have key:∀ d k (hk:k+d+1 < bs.length),bs[k].bH.less bs[k+d+1].bH=true:=by
  intro d
  induction d with
  | zero=>intro k hk;exact step k hk
  | succ d ih =>
   intro k hk;have h1:=mq.1 (ih k (by omega));have h2:=mq.1 (step (k+d+1) hk);have h3:bs[k].bH.less bs[k+d+1+1].bH=true:=mq.2 (by omega);exact h3
 intro i j hi hj hij;have:=key (j-i-1) i (by omega);have e:i+(j-i-1)+1=j:=by omega
 simpa only [e] using this
theorem abT {l:bq} {r:au} {ps:List eO} {w c:Int} (h:GU l r ps w c=0):r.okB=true/\jj r w c ps=0/\HI l r ps w c=gw ⟨2,w,c⟩ l.bs+Tz r w c ps/\bP (HI l r ps w c)=true:=by
 have h0:u0 l r ps=0:=by
  by_cases hb:(u0 l r ps != 0)=true
  ·simp only [GU,hb,if_true] at h;exact h
  ·simpa using hb
 have hb0:(u0 l r ps != 0)=false:=by simp [h0]
 have hr:r.okB=true:=by
  unfold u0 at h0;split at h0
  ·rename_i hh;simp only [bZ] at hh;exact hh.1.2
  ·cases h0
 have h1:jj r w c ps=0:=by
  by_cases hb:(jj r w c ps != 0)=true
  ·simp only [GU,hb0,hb,if_true,fY,if_false] at h;exact h
  ·simpa using hb
 have hb1:(jj r w c ps != 0)=false:=by simp [h1]
 simp only [GU,hb0,hb1,fY,if_false] at h
 have hs:right (gw ⟨2,w,c⟩ l.bs :: iS r w c ps)=true/\bP (az (gw ⟨2,w,c⟩ l.bs :: iS r w c ps))=true:=by
  unfold ru at h;split at h
  ·rename_i hh;split at h
   ·rename_i hi;exact ⟨hh,hi⟩
   ·cases h
  ·cases h
 have hN:HI l r ps w c=az (gw ⟨2,w,c⟩ l.bs :: iS r w c ps):=by
  simp [HI,hb0,hb1,rz,hs.1,hs.2]
 refine ⟨hr,h1,?_,by rw [hN];exact hs.2⟩;rw [hN];simp only [az,MA]
def Ue (s:af) (w c:Int):Int:=
 if GU s.aU s.aj s.ps w c=0 then (if s.book.okB then (if AV s.aj w c s.book.qs=0 then (if zE s.aj w c s.book.qs<=HI s.aU s.aj s.ps w c then 0 else Ug (zE s.aj w c s.book.qs) (HI s.aU s.aj s.ps w c)) else AV s.aj w c s.book.qs) else 14) else GU s.aU s.aj s.ps w c
def Po (s:af) (w c:Int):Int:=
 if GU s.aU s.aj s.ps w c=0 then (if s.book.okB then (if AV s.aj w c s.book.qs=0 then (if zE s.aj w c s.book.qs<=HI s.aU s.aj s.ps w c then 0 else UI (zE s.aj w c s.book.qs) (HI s.aU s.aj s.ps w c)) else 0) else 0) else 0
structure af.fit (s:af):Prop where
 aj:s.aj.small
 book:s.book.small
 aU:s.aU.bs.length < 2 ^ 30
 ps:s.ps.length < 2 ^ 30
theorem K5 (r:au) (w c:Int) (qs:List aA):bP (zE r w c qs)=true:=by
 unfold zE;split
 ·split
  ·assumption
  ·decide
 ·decide
theorem VH {l:bq} (h:l.okB=true):j3 l.bs=true/\∀ z∈l.bs,bP z.sum=true:=by
 simp only [bq.okB,bZ] at h;refine ⟨h.1.2,fun z hz=>?_⟩;obtain ⟨i,hi,rfl⟩:=List.mem_iff_getElem.1 hz;have:=List.all_eq_true.1 h.1.2 i (List.mem_range.2 hi)
 have hk:jZ l.bs[i]=true:=by
  rcases Nat.eq_zero_or_pos i with rfl | hp
  ·rwa [jN hi] at this
  ·obtain ⟨j,rfl⟩:∃ j,i=j+1:=⟨i-1,by omega⟩
   rw [iJ hi,bZ] at this;exact this.1
 simp only [jZ,bZ] at hk;exact hk.2.1
theorem Nc {l:List Int} (h:∀ n∈l,eW n) (hl:l.length < 2 ^ 58):(∀ n∈l,pg n=true)/\pg (az l)=true:=by
 have h1:∀ n∈l,-9223372036854775808<=n/\n<=9223372036854775808:=fun n hn=>by have:=h n hn;exact ⟨this.1,by have:=this.2;omega⟩
 refine ⟨fun n hn=>sP (h1 n hn) (by omega),?_⟩;exact sP (B:=9223372036854775808*(l.length:Int)) (vL h1) (by omega)
def addN (l:List Int):Int:=if bP (az l) then az l else 0
theorem ct (l:List Int) (h:∀ n∈l,eW n) (hl:l.length < 2 ^ 30):Abs.Spec Tryz.prog 177 [] [.sl 1 (ints l)] [] (.bI [.int .i64 (addN l),.bool (bP (az l))]):=by
 obtain ⟨h1,h2⟩:=Nc h (by omega);have hs:=jW l (by omega) h1;have hI:=jU (az l);rw [h2,if_pos rfl] at hs;simp only [wd] at hs hI;refine bg 33 1 [.tmp 2,.tmp 3] mixed Tryz.func177 ?_;simp only [go_sem,seval,ay];refine aC.walk (S:=Unit) l.length [0] [] (fun i _=>[(5,.int .i64 i),(4,.ref 352)]) (fun i _=>[(352,.own 2 (kD (l.take i)))]) (fun _ _=>True) () trivial ?_ ?_ ?_
 ·simp only [go_sem,seval]<;>simp [kD]
 ·intro i _ hi hdi hwi _;have hO:=qN l[i] (h _ (List.getElem_mem hi));have hnext:kD (l.take (i+1))=kD (l.take i)++[wd l[i]]:=by rw [List.take_succ_eq_append_getElem hi];simp only [kD,List.map_append,List.map_cons,List.map_nil]
  have hlen:(kD (l.take i)).length=i:=by simp [kD];omega
  simp only [wd] at hO;simp only [go_sem,seval,ay,hdi,ints_at l hi];(with_reducible and_intros)<;>first|exact .dq|omega|skip
  refine aa.pure hO ?_;simp only [go_sem,seval,hwi,hlen];(with_reducible and_intros)<;>first|exact .dq|omega|skip
  refine ah.step () hi trivial ?_;simp only [go_sem,seval,hnext]<;>simp [wd]
 ·intro _ hdx _;simp only [go_sem,seval,ay,hdx,List.take_length];refine aa.gen [] [] true (by simp) ?_;simp only [go_sem,seval];refine aY.intro hs ?_;simp only [go_sem,seval];refine aa.pure hI ?_;simp only [go_sem,seval,addN]
theorem fI (x:aH):Abs.Spec Tryz.prog 69 [] [.agg x.cells] [] (.bool x.right):=by
 simp only [aH.cells];refine bg 40 1 [.tmp 2] mixed Tryz.func69 ?_;simp only [go_sem,seval]
 repeat' with_reducible first|apply And.intro|exact .dq|refine aa.pure (by assumption) ?_|refine .aM (fun h=>?_) fun h=>?_|refine .aK (fun h=>?_) fun h=>?_|refine .aO (fun h=>?_) fun h=>?_|refine .split (fun h=>?_) fun h=>?_|refine .id ?_|refine ah.next (by omega) ?_ ?_|exact trivial|simp only [*,go_sem,seval]
 all_goals (try simp only [decide_eq_true_eq,decide_eq_false_iff_not] at *)
 all_goals (unfold aH.right;simp_all [owned];try (intros;omega))
theorem sI (x:aH):Abs.Spec Tryz.prog 178 [] [.agg x.cells] [] (.int .i64 x.floor):=by
 have hr:=fI x;simp only [aH.cells] at hr |-;refine bg 15 1 [.tmp 2] mixed Tryz.func178 ?_;simp only [go_sem,seval]
 repeat' with_reducible first|apply And.intro|exact .dq|refine aa.pure (by assumption) ?_|refine aa.pure (hr) ?_|refine .aM (fun h=>?_) fun h=>?_|refine .aK (fun h=>?_) fun h=>?_|refine .aO (fun h=>?_) fun h=>?_|refine .split (fun h=>?_) fun h=>?_|refine .id ?_|refine ah.next (by omega) ?_ ?_|exact trivial|simp only [*,go_sem,seval]
 all_goals (unfold aH.floor;simp [*])
theorem Ea (x y:aH):Abs.Spec Tryz.prog 211 [] [.agg x.cells,.agg y.cells] [] (.bool (x.less y)):=by
 simp only [aH.cells];refine bg 30 2 [.tmp 4] mixed Tryz.func211 ?_;simp only [go_sem,seval]
 repeat' with_reducible first|apply And.intro|exact .dq|refine aa.pure (by assumption) ?_|refine .aM (fun h=>?_) fun h=>?_|refine .aK (fun h=>?_) fun h=>?_|refine .aO (fun h=>?_) fun h=>?_|refine .split (fun h=>?_) fun h=>?_|refine .id ?_|refine ah.next (by omega) ?_ ?_|exact trivial|simp only [*,go_sem,seval]
 all_goals (unfold aH.less;simp_all)
theorem pG (x y:aH):Abs.Spec Tryz.prog 152 [] [.agg x.cells,.agg y.cells] [] (.bool (x.same y)):=by
 simp only [aH.cells];refine bg 24 2 [.tmp 4] mixed Tryz.func152 ?_;simp only [go_sem,seval]
 repeat' with_reducible first|apply And.intro|exact .dq|refine aa.pure (by assumption) ?_|refine .aM (fun h=>?_) fun h=>?_|refine .aK (fun h=>?_) fun h=>?_|refine .aO (fun h=>?_) fun h=>?_|refine .split (fun h=>?_) fun h=>?_|refine .id ?_|refine ah.next (by omega) ?_ ?_|exact trivial|simp only [*,go_sem,seval]
 all_goals (simp_all [aH.same])
theorem j0 (l:bq) (a:aH) (hl:l.bs.length < 2 ^ 30):Abs.Spec Tryz.prog 70 [] [.agg l.cells,.agg a.cells] [] (.int .i64 (gw a l.bs)):=by
 simp only [bq.cells,aH.cells];refine bg 27 2 [.tmp 4] mixed Tryz.func70 ?_;simp only [go_sem,seval,aG];refine aC.walk (S:=Unit) l.bs.length [2,3] [48,64] (fun i _=>[(5,.int .i64 i)]) (fun _ _=>[]) (fun i _=>gw a (l.bs.drop i)=gw a l.bs) () rfl ?_ ?_ ?_
 ·simp only [go_sem,seval]<;>simp
 ·intro i _ hi hdi hwi hI;have hm:=aD (c:=bp.cells) l.bs hi;obtain ⟨z,hz⟩:=aL (l.bs[i]);have hS:=pG z.bH a;have hlt:(i:Int) < (l.bs.length:Int):=by omega
  rw [dy hi] at hI;rw [<- hz] at hm hI;simp only [gw] at hI;have e:SN a z=z.bH.same a:=by simp [SN,aH.same,bp.bH]
  rw [e] at hI;simp only [aH.cells,bp.cells,bp.bH] at hS hm;simp only [go_sem,seval,aG,hdi,hm];(with_reducible and_intros)<;>first|exact .dq|omega|skip
  refine aa.pure hS ?_;cases hb:aH.same ⟨z.kind,z.who,z.cur⟩ a
  ·rw [show z.bH.same a=false from hb] at hI;simp only [fY,if_false] at hI;simp only [go_sem,seval,hwi];refine ah.step () hi hI ?_;simp only [go_sem,seval]
  ·rw [show z.bH.same a=true from hb,if_pos rfl] at hI;simp only [go_sem,seval,aG,hm,<- hI];(with_reducible and_intros)<;>first|exact .dq|omega|skip
 ·intro _ hdx hI;simp only [List.drop_length,gw] at hI;simp only [go_sem,seval,aG,hdx,<- hI]
def pY (ks:List Int) (k:Int):Bool:=ks.any (· == k)
def vv (c:Int) (ks:List Int) (bs:List bp):List Int:=(bs.filter fun b=>pY ks b.kind&&b.cur==c).map bp.sum
theorem OT (c:Int) (ks:List Int) (bs:List bp) {i:Nat} (h:i < bs.length):vv c ks (bs.take (i+1))=if pY ks bs[i].kind&&bs[i].cur==c then vv c ks (bs.take i)++[bs[i].sum] else vv c ks (bs.take i):=by
 simp only [vv];rw [List.take_succ_eq_append_getElem h,List.filter_append,List.map_append];cases hb:(pY ks bs[i].kind&&bs[i].cur==c)<;>simp [List.filter,hb]
theorem JG (c:Int) (ks:List Int) (bs:List bp):(vv c ks bs).length<=bs.length:=by
 simp only [vv,aG];exact List.length_filter_le _ _
theorem Qy {c:Int} {ks:List Int} {bs:List bp} (h:∀ b∈bs,b.cE):∀ n∈vv c ks bs,eW n:=by
 intro n hn;simp only [vv,List.mem_map,List.mem_filter] at hn;obtain ⟨b,⟨hb,_⟩,rfl⟩:=hn;exact (h b hb).2.2.2
theorem w6 (ks:List Int) (k:Int) {i:Nat} (h:i < ks.length):pY (ks.take (i+1)) k=(pY (ks.take i) k||ks[i]==k):=by
 simp only [pY];rw [List.take_succ_eq_append_getElem h,List.any_append];simp
theorem Cd (l:bq) (c:Int) (ks:List Int) (hl:l.bs.length < 2 ^ 30) (hk:ks.length < 2 ^ 30) (hr:∀ b∈l.bs,b.cE):Abs.Spec Tryz.prog 212 [] [.agg l.cells,.int .i64 c,.sl 1 (ints ks)] [] (.bI [.int .i64 (addN (vv c ks l.bs)),.bool (bP (az (vv c ks l.bs)))]):=by
 have htl:=JG c ks l.bs;have hA:=ct (vv c ks l.bs) (Qy hr) (by omega);simp only [bq.cells];refine bg 65 3 [.tmp 6,.tmp 7] mixed Tryz.func212 ?_;simp only [go_sem,seval,aG,ay];refine aC.walk (S:=Unit) l.bs.length [1,2,3] [64] (fun i _=>[(9,.int .i64 i),(8,.ref 976)]) (fun i _=>[(976,.own 1 (ints (vv c ks (l.bs.take i))))]) (fun _ _=>True) () trivial ?_ ?_ ?_
 ·simp only [go_sem,seval]<;>simp [vv,ints]
 ·intro i _ hi hdi hwi _;have hm:=aD (c:=bp.cells) l.bs hi;have hs:=OT c ks l.bs hi;have hlen:=JG c ks (l.bs.take i);have hlt:(l.bs.take i).length=i:=by simp;omega
  have hli:(i:Int) < (l.bs.length:Int):=by omega
  obtain ⟨z,hz⟩:=aL (l.bs[i]);rw [<- hz] at hm hs;simp only [bp.cells] at hm;simp only [go_sem,seval,aG,hdi,ay];refine aC.walk (S:=Unit) ks.length [1,2,3,8,9] [64,976] (fun k _=>[(11,.int .i64 k),(10,.bool (pY (ks.take k) z.kind))]) (fun _ _=>[]) (fun _ _=>True) () trivial ?_ ?_ ?_
  ·simp only [go_sem,seval]<;>simp [pY]
  ·intro k _ hk hdk hwk _;have hst:=w6 ks z.kind hk;cases hb:pY (ks.take k) z.kind
   ·rw [hb,Bool.false_or] at hst;simp only [go_sem,seval,aG,ay,hdk,ints_at ks hk,hm,hwk];(with_reducible and_intros)<;>first|exact .dq|omega|skip
    refine ah.step () hk trivial ?_;simp only [go_sem,seval,hst]
   ·rw [hb,Bool.true_or] at hst;simp only [go_sem,seval,aG,ay,hdk,ints_at ks hk,hm,hwk];(with_reducible and_intros)<;>first|exact .dq|omega|skip
    refine ah.step () hk trivial ?_;simp only [go_sem,seval,hst]
  ·intro _ hdk _;cases b1:pY ks z.kind
   ·simp only [b1,Bool.false_and,fY,if_false] at hs;simp only [go_sem,seval,ay,aG,hdk,List.take_length,b1,hwi];(with_reducible and_intros)<;>first|exact .dq|omega|skip
    refine ah.step () hi trivial ?_;simp only [go_sem,seval,hs]
   cases b2:z.cur==c
   ·simp only [b1,b2,Bool.and_false,fY,if_false] at hs;simp only [go_sem,seval,ay,aG,hdk,List.take_length,b1,hm,b2,hwi];(with_reducible and_intros)<;>first|exact .dq|omega|skip
    refine ah.step () hi trivial ?_;simp only [go_sem,seval,hs]
   simp only [b1,b2,Bool.and_self,if_true] at hs;simp only [go_sem,seval,ay,aG,hdk,List.take_length,b1,hm,b2,hwi];(with_reducible and_intros)<;>first|exact .dq|omega|skip
   refine ah.step () hi trivial ?_;simp only [go_sem,seval,hs]<;>simp [ints]
 ·intro _ hdx _;simp only [go_sem,seval,ay,aG,hdx,List.take_length];refine aa.gen [] [] true (by simp) ?_;simp only [go_sem,seval];refine aY.intro hA ?_;simp only [go_sem,seval]
theorem PK {bs:List bp} {i:Nat} (hI:∀ j < i,mC bs j=true) (h0:mC bs i=true):∀ k < i+1,mC bs k=true:=fun k hk=>by
 rcases Nat.lt_or_ge k i with h | h
 ·exact hI k h
 ·obtain rfl:k=i:=by omega
  exact h0
theorem MX {bs:List bp} (h:j3 bs=true) (c:Int):vv c [1,2,3,4,5,6] bs=fN c bs/\∀ n∈fN c bs,bP n=true:=by
 have hk:∀ b∈bs,jZ b=true:=fun b hb=>by
  obtain ⟨i,hi,rfl⟩:=List.mem_iff_getElem.1 hb;have:=List.all_eq_true.1 h i (List.mem_range.2 hi);rcases Nat.eq_zero_or_pos i with rfl | hp
  ·rwa [jN hi] at this
  ·obtain ⟨j,rfl⟩:∃ j,i=j+1:=⟨i-1,by omega⟩
   rw [iJ hi,bZ] at this;exact this.1
 refine ⟨?_,fun n hn=>?_⟩
 ·unfold vv fN;congr 1;refine List.filter_congr fun b hb=>?_
  have:=hk b hb;simp only [jZ,bZ] at this;have h1:=this.1;unfold aH.right at h1;split at h1
  ·cases h1
  ·rename_i h2;simp only [bp.bH] at h2
   have e:pY [1,2,3,4,5,6] b.kind=true:=by
    simp only [pY,List.any_cons,List.any_nil,Bool.or_eq_true,beq_iff_eq];omega
   rw [e,Bool.true_and]
 ·simp only [fN,List.mem_map,List.mem_filter] at hn;obtain ⟨b,⟨hb,_⟩,rfl⟩:=hn;have:=hk b hb;simp only [jZ,bZ] at this;exact this.2.1
theorem Ez {l:List Int} (h:∀ n∈l,bP n=true):right l=true:=List.all_eq_true.2 h
theorem gX (l:bq) (hl:l.bs.length < 2 ^ 30) (hr:∀ b∈l.bs,b.cE):Abs.Spec Tryz.prog 174 [] [.agg l.cells] [] (.bool l.okB):=by
 have hT:=fun c=>Cd l c [1,2,3,4,5,6] hl (by simp) hr
 simp only [bq.cells,ints,List.map_cons,List.map_nil] at hT |-;refine bg 80 1 [.tmp 2] mixed Tryz.func174 ?_;rcases Int.lt_or_le l.last 0 with h0 | h0
 ·have d0:decide (l.last < 0)=true:=by simpa using h0
  have e:l.okB=false:=by simp [bq.okB];omega
  simp only [go_sem,seval,d0,e]
 have d0:decide (l.last < 0)=false:=by simpa using h0
 simp only [go_sem,seval,d0,aG];refine aC.count l.bs.length [1] [32] (fun i=>[(3,.int .i64 i)]) (fun i=>[]) (fun i=>∀ j < i,mC l.bs j=true) (by simp) ?_ ?_
 ·simp only [go_sem,seval]<;>simp
 intro i hi hI;simp only [go_sem,seval,aG];refine bJ.aK (fun h=>?_) (fun h=>?_)
 ·have hi':i < l.bs.length:=by omega
  have hw:IntKind.wrap .i64 ((i:Int)+1)=((i+1:Nat):Int):=by rw [bz (by omega) (by omega)];omega
  have hm:=aD (c:=bp.cells) l.bs hi';have h1:=fI l.bs[i].bH;have h2:=cZ l.bs[i].sum;have h3:=sI l.bs[i].bH;have e0:=PK (i:=i) hI;have e1:mC l.bs i=false->l.okB=false:=fun hx=>by simp [bq.okB,wo hi' hx]
  simp only [bp.cells,aH.cells,bp.bH] at hm h1 h3;clear hT;rcases Nat.eq_zero_or_pos i with rfl | hpos
  ·have hk:=jN hi';simp only [jZ,bp.bH] at hk;simp only [go_sem,seval,hm,aG]
   repeat' with_reducible first|apply And.intro|exact .dq|refine aa.pure (by assumption) ?_|refine aa.pure (h1) ?_|refine aa.pure (h2) ?_|refine aa.pure (h3) ?_|refine .aM (fun h=>?_) fun h=>?_|refine .aK (fun h=>?_) fun h=>?_|refine .aO (fun h=>?_) fun h=>?_|refine .split (fun h=>?_) fun h=>?_|refine .id ?_|refine ah.next (by omega) ?_ ?_|exact trivial|simp only [*,go_sem,seval]
   all_goals first
    | omega
    | rfl
    | (refine e0 ?_;clear e0 e1;rw [hk];clear hk;simp [bne, *];done)
    | (rw [e1 ?_];clear e0 e1;rw [hk];clear hk;simp [bne, *];done)
  ·obtain ⟨j,rfl⟩:∃ j,i=j+1:=⟨i-1,by omega⟩
   have hj:j < l.bs.length:=by omega
   have hw1:IntKind.wrap .i64 (((j+1:Nat):Int)-1)=(j:Int):=by rw [bz (by omega) (by omega)];omega
   have hk:=iJ hi';simp only [jZ,bp.bH] at hk;have hmj:=aD (c:=bp.cells) l.bs hj;have h4:=Ea l.bs[j].bH l.bs[j+1].bH;simp only [bp.cells,aH.cells,bp.bH] at hmj h4;simp only [go_sem,seval,hm,aG]
   repeat' with_reducible first|apply And.intro|exact .dq|refine aa.pure (by assumption) ?_|refine aa.pure (h1) ?_|refine aa.pure (h2) ?_|refine aa.pure (h3) ?_|refine aa.pure (h4) ?_|refine .aM (fun h=>?_) fun h=>?_|refine .aK (fun h=>?_) fun h=>?_|refine .aO (fun h=>?_) fun h=>?_|refine .split (fun h=>?_) fun h=>?_|refine .id ?_|refine ah.next (by omega) ?_ ?_|exact trivial|simp only [*,go_sem,seval,hmj,aG]
   all_goals first
    | omega
    | rfl
    | (refine e0 ?_;clear e0 e1;rw [hk];clear hk;simp [bne, *];done)
    | (rw [e1 ?_];clear e0 e1;rw [hk];clear hk;simp [bne, *];done)
 have hs:=pH (fun j (hj:j < l.bs.length)=>hI j (by omega))
 have hbal:∀ c:Int,jK l.bs c=(bP (az (fN c l.bs))&&addN (fN c l.bs)==0):=fun c=>by
  have:=(MX hs c).2;simp only [jK,ru,rz,addN,Ez this,if_true,Bool.true_and];cases bP (az (fN c l.bs))<;>simp
 simp only [go_sem,seval];refine aC.walk (S:=Unit) 3 [1] [32] (fun i _=>[(5,.int .i64 i)]) (fun i _=>[]) (fun i _=>∀ c < i,jK l.bs (c:Nat)=true) () (by simp) ?_ ?_ ?_
 ·simp only [go_sem,seval]<;>simp
 ·intro c _ hc hdc hwc hC;have hdc:decide ((c:Int) < 3)=true:=hdc;have hTc:=hT c;rw [(MX hs c).1] at hTc;have hb:=hbal c
  have hbad:jK l.bs c=false->l.okB=false:=fun hx=>by
   obtain rfl | rfl | rfl:c=0\/c=1\/c=2:=by omega
   ·have:jK l.bs 0=false:=hx;simp [bq.okB,this]
   ·have:jK l.bs 1=false:=hx;simp [bq.okB,this]
   ·have:jK l.bs 2=false:=hx;simp [bq.okB,this]
  simp only [go_sem,seval,hdc];refine aa.gen [] [] true (by simp) ?_;simp only [go_sem,seval];refine aY.intro hTc ?_;cases b1:bP (az (fN c l.bs))
  ·simp only [go_sem,seval,b1,hbad (by rw [hb,b1];rfl)]
  cases b2:addN (fN c l.bs)==0
  ·simp only [go_sem,seval,b1,bne,b2,hbad (by rw [hb,b1,b2];rfl)]
  simp only [go_sem,seval,b1,bne,b2,hwc];refine ah.step () hc ?_ ?_
  ·intro k hk;rcases Nat.lt_or_ge k c with h | h
   ·exact hC k h
   ·obtain rfl:k=c:=by omega
    rw [hb,b1,b2];rfl
  ·simp only [go_sem,seval]
 ·intro _ hdc hC;have hdc:decide ((3:Int) < 3)=false:=hdc;have b0:jK l.bs 0=true:=hC 0 (by omega);have b1:jK l.bs 1=true:=hC 1 (by omega);have b2:jK l.bs 2=true:=hC 2 (by omega);have e:l.okB=true:=by simp [bq.okB,hs,b0,b1,b2,h0]
  simp only [go_sem,seval,hdc,e]
theorem oI (w n:Int):Abs.Spec Tryz.prog 71 [] [.agg [.int .i64 w,.int .i64 n]] [] (.bool (oA w n)):=by
 have h1:=fE w;have h2:=bn n 1 8;refine bg 11 1 [.tmp 2] mixed Tryz.func71 ?_;simp only [go_sem,seval]
 repeat' with_reducible first|apply And.intro|exact .dq|refine aa.pure (by assumption) ?_|refine aa.pure (h1) ?_|refine aa.pure (h2) ?_|refine .aM (fun h=>?_) fun h=>?_|refine .aK (fun h=>?_) fun h=>?_|refine .aO (fun h=>?_) fun h=>?_|refine .split (fun h=>?_) fun h=>?_|refine .id ?_|refine ah.next (by omega) ?_ ?_|exact trivial|simp only [*,go_sem,seval]
 all_goals (simp_all [oA])
theorem zR (a b c d:Int):Abs.Spec Tryz.prog 217 [] [.agg [.int .i64 a,.int .i64 b],.agg [.int .i64 c,.int .i64 d]] [] (.bool (Ca a b c d)):=by
 refine bg 24 2 [.tmp 4] mixed Tryz.func217 ?_;simp only [go_sem,seval]
 repeat' with_reducible first|apply And.intro|exact .dq|refine aa.pure (by assumption) ?_|refine .aM (fun h=>?_) fun h=>?_|refine .aK (fun h=>?_) fun h=>?_|refine .aO (fun h=>?_) fun h=>?_|refine .split (fun h=>?_) fun h=>?_|refine .id ?_|refine ah.next (by omega) ?_ ?_|exact trivial|simp only [*,go_sem,seval]
 all_goals (simp only [Ca];simp_all)
theorem pq (t:aI):Abs.Spec Tryz.prog 179 [] [.agg t.cells] [] (.bool (within t.aV 1 1048576&&within t.aR 1 1073741824)):=by
 have h1:=bn t.aV 1 1048576;have h2:=bn t.aR 1 1073741824;simp only [aI.cells];refine bg 11 1 [.tmp 2] mixed Tryz.func179 ?_;simp only [go_sem,seval]
 repeat' with_reducible first|apply And.intro|exact .dq|refine aa.pure (by assumption) ?_|refine aa.pure (h1) ?_|refine aa.pure (h2) ?_|refine .aM (fun h=>?_) fun h=>?_|refine .aK (fun h=>?_) fun h=>?_|refine .aO (fun h=>?_) fun h=>?_|refine .split (fun h=>?_) fun h=>?_|refine .id ?_|refine ah.next (by omega) ?_ ?_|exact trivial|simp only [*,go_sem,seval]
 all_goals (simp_all)
theorem rV (t:aI):Abs.Spec Tryz.prog 181 [] [.agg t.cells] [] (.bool t.okB):=by
 have h0:=pq t;have h1:=fE t.fW;have h2:=fE t.dV;have h3:=bn t.inst 1 8;simp only [aI.cells] at h0 |-;refine bg 27 1 [.tmp 2] mixed Tryz.func181 ?_;simp only [go_sem,seval]
 repeat' with_reducible first|apply And.intro|exact .dq|refine aa.pure (by assumption) ?_|refine aa.pure (h0) ?_|refine aa.pure (h1) ?_|refine aa.pure (h2) ?_|refine aa.pure (h3) ?_|refine .aM (fun h=>?_) fun h=>?_|refine .aK (fun h=>?_) fun h=>?_|refine .aO (fun h=>?_) fun h=>?_|refine .split (fun h=>?_) fun h=>?_|refine .id ?_|refine ah.next (by omega) ?_ ?_|exact trivial|simp only [*,go_sem,seval]
 all_goals first
  | (simp_all [aI.okB,oA,bne];done)
  | (rw [Bool.eq_iff_iff];simp_all [aI.okB,oA,bne])
theorem Ln (a b:aI):eo a b = !decide (b.no<=a.no):=by
 rw [Bool.eq_iff_iff];simp [eo]
theorem EP {n:Int} {l:List aA} (h:∀ p∈l,p.cE):∀ q∈bR n l,eW q:=by
 intro q hq;simp only [bR,List.mem_map,List.mem_filter] at hq;obtain ⟨p,⟨hp,_⟩,rfl⟩:=hq;exact (h p hp).2.2.1
theorem KF {n:Int} {l:List aA} (h:lZ aA.okB fO l=true):kn n l=(bP (az (bR n l))&&addN (bR n l)==0):=by
 have hr:right (bR n l)=true:=List.all_eq_true.2 fun q hq=>by
  simp only [bR,List.mem_map,List.mem_filter] at hq;obtain ⟨p,⟨hp,_⟩,rfl⟩:=hq;obtain ⟨i,hi,rfl⟩:=List.mem_iff_getElem.1 hp;have:=FW h hi;simp only [aA.okB,within,bZ,decide_eq_true_eq] at this;refine cm.2 ?_;omega
 simp only [kn,ru,rz,addN,hr,if_true,Bool.true_and];cases bP (az (bR n l))<;>simp
theorem gR (b:aF) (hl:b.small) (hr:∀ p∈b.qs,p.cE):Abs.Spec Tryz.prog 180 [] [.agg b.cells] [] (.bool b.okB):=by
 obtain ⟨hl1,hl2⟩:=hl;have hA:=fun n=>ct (bR n b.qs) (EP hr) (by have:=nE n b.qs;omega)
 have hN:=bn b.next 0 1099511627776
 have hNe:within b.next 0 1099511627776=(!decide (b.next < 0)&&!decide (1099511627776 < b.next)):=by rw [Bool.eq_iff_iff];simp [within]
 simp only [aF.cells];refine bg 156 1 [.tmp 2] mixed Tryz.func180 ?_;simp only [go_sem,seval];refine aa.pure hN ?_;cases b1:within b.next 0 1099511627776
 ·rw [hNe] at b1;have e:b.okB=false:=by simp only [aF.okB,b1,Bool.and_false]
  simp only [go_sem,seval,e]
 cases b2:decide (128 < (b.ts.length:Int))
 case true =>
  have e:b.okB=false:=by simp [aF.okB,b2]
  simp only [go_sem,seval,aG,b2,e]
 have e:b.okB=(lZ aA.okB fO b.qs&&(lZ (eL b.next) eo b.ts&&lG b.qs)):=by
  rw [hNe] at b1;simp only [aF.okB,b1,b2,Bool.not_false,Bool.and_true]
 rw [e];clear e hN hNe;simp only [go_sem,seval,aG,b2];refine aC.count b.qs.length [1] [32] (fun i=>[(3,.int .i64 i)]) (fun i=>[]) (fun i=>∀ j < i,kG aA.okB fO b.qs j=true) (by simp) ?_ ?_
 ·simp only [go_sem,seval]<;>simp
 intro i hi hI;simp only [go_sem,seval,aG];refine bJ.aK (fun h=>?_) (fun h=>?_)
 ·have hi':i < b.qs.length:=by omega
  have hw:IntKind.wrap .i64 ((i:Int)+1)=((i+1:Nat):Int):=by rw [bz (by omega) (by omega)];omega
  have hm:=aD (c:=aA.cells) b.qs hi';have h1:=oI b.qs[i].who b.qs[i].inst;have h2:=cZ b.qs[i].cost;have h3:=bn b.qs[i].aV (-1099511627776) 1099511627776;have e0:=nj (i:=i) hI;have e1:kG aA.okB fO b.qs i=false->(lZ aA.okB fO b.qs&&(lZ (eL b.next) eo b.ts&&lG b.qs))=false:=fun hx=>by simp [rq hi' hx]
  simp only [aA.cells] at hm;clear hA;rcases Nat.eq_zero_or_pos i with rfl | hpos
  ·have hk:=gz (ok:=aA.okB) (lt:=fO) hi';simp only [aA.okB] at hk;simp only [go_sem,seval,hm,aG]
   repeat' with_reducible first|apply And.intro|exact .dq|refine aa.pure (by assumption) ?_|refine aa.pure (h1) ?_|refine aa.pure (h2) ?_|refine aa.pure (h3) ?_|refine .aM (fun h=>?_) fun h=>?_|refine .aK (fun h=>?_) fun h=>?_|refine .aO (fun h=>?_) fun h=>?_|refine .split (fun h=>?_) fun h=>?_|refine .id ?_|refine ah.next (by omega) ?_ ?_|exact trivial|simp only [*,go_sem,seval]
   all_goals first
    | omega
    | rfl
    | (refine e0 ?_;clear e0 e1;rw [hk];clear hk;simp_all;done)
    | (rw [e1 ?_];clear e0 e1;rw [hk];clear hk;simp_all;done)
  ·obtain ⟨j,rfl⟩:∃ j,i=j+1:=⟨i-1,by omega⟩
   have hj:j < b.qs.length:=by omega
   have hw1:IntKind.wrap .i64 (((j+1:Nat):Int)-1)=(j:Int):=by rw [bz (by omega) (by omega)];omega
   have hk:=fQ (ok:=aA.okB) (lt:=fO) hi';simp only [aA.okB,fO] at hk;have hmj:=aD (c:=aA.cells) b.qs hj;have h4:=zR b.qs[j].who b.qs[j].inst b.qs[j+1].who b.qs[j+1].inst;simp only [aA.cells] at hmj;simp only [go_sem,seval,hm,aG]
   repeat' with_reducible first|apply And.intro|exact .dq|refine aa.pure (by assumption) ?_|refine aa.pure (h1) ?_|refine aa.pure (h2) ?_|refine aa.pure (h3) ?_|refine aa.pure (h4) ?_|refine .aM (fun h=>?_) fun h=>?_|refine .aK (fun h=>?_) fun h=>?_|refine .aO (fun h=>?_) fun h=>?_|refine .split (fun h=>?_) fun h=>?_|refine .id ?_|refine ah.next (by omega) ?_ ?_|exact trivial|simp only [*,go_sem,seval,hmj,aG]
   all_goals first
    | omega
    | rfl
    | (refine e0 ?_;clear e0 e1;rw [hk];clear hk;simp_all;done)
    | (rw [e1 ?_];clear e0 e1;rw [hk];clear hk;simp_all;done)
 have hP:=lY (fun j (hj:j < b.qs.length)=>hI j (by omega));have hl1r:=fun n:Int=>KF (n:=n) hP
 rw [hP,Bool.true_and];clear hI;simp only [go_sem,seval];refine aC.walk (S:=Unit) 8 [1] [32] (fun i _=>[(5,.int .i64 ((i:Int)+1))]) (fun i _=>[]) (fun i _=>∀ j < i,kn ((j:Int)+1) b.qs=true) () (by simp) ?_ ?_ ?_
 ·simp only [go_sem,seval]<;>simp
 ·intro c _ hc _ _ hC;obtain ⟨n,hn⟩:=aL ((c:Int)+1);have hd:decide (n<=8)=true:=decide_eq_true (by omega);have hw:IntKind.wrap .i64 (n+1)=((c+1:Nat):Int)+1:=by rw [bz (by omega) (by omega)];omega
  rw [<- hn];simp only [go_sem,seval,hd,aG];refine aC.walk (S:=Unit) b.qs.length [1,5] [32] (fun i _=>[(7,.int .i64 i),(6,.ref 1696)]) (fun i _=>[(1696,.own 1 (ints (bR n (b.qs.take i))))]) (fun _ _=>True) () trivial ?_ ?_ ?_
  ·simp only [go_sem,seval]<;>simp [bR,ints]
  ·intro i _ hi hdi hwi _;have hm:=aD (c:=aA.cells) b.qs hi;have hs:=vG n b.qs hi;have hlen:=nE n (b.qs.take i);have hlt:(b.qs.take i).length=i:=by simp;omega
   have hli:(i:Int) < (b.qs.length:Int):=by omega
   simp only [aA.cells] at hm;simp only [go_sem,seval,hdi,hm,aG];(with_reducible and_intros)<;>first|exact .dq|omega|skip
   cases hb:b.qs[i].inst==n
   ·simp only [hb,fY,if_false] at hs;simp only [go_sem,seval,hwi];refine ah.step () hi trivial ?_;simp only [go_sem,seval,hs]
   ·simp only [hb,if_true] at hs;simp only [go_sem,seval,hwi,ay,aG,hm];(with_reducible and_intros)<;>first|exact .dq|omega|skip
    refine ah.step () hi trivial ?_;simp only [go_sem,seval,hs]<;>simp [ints]
  ·intro _ hdx _
   have hbad:kn n b.qs=false->lG b.qs=false:=fun hx=>by
    cases hh:lG b.qs
    ·rfl
    ·have:=List.all_eq_true.1 hh c (List.mem_range.2 hc);rw [<- hn,hx] at this;cases this
   have hr1:=hl1r n;simp only [go_sem,seval,hdx,aG,List.take_length];refine aa.gen [] [] true (by simp) ?_;simp only [go_sem,seval];refine aY.intro (hA n) ?_;cases b3:bP (az (bR n b.qs))
   ·have:=hbad (by rw [hr1,b3];rfl);simp only [go_sem,seval,b3,this,Bool.and_false]
   cases b4:addN (bR n b.qs)==0
   ·have:=hbad (by rw [hr1,b3,b4];rfl);simp only [go_sem,seval,bne,b3,b4,this,Bool.and_false]
   simp only [go_sem,seval,bne,b3,b4,hw];refine ah.step () hc ?_ ?_
   ·intro j hj;rcases Nat.lt_or_ge j c with h | h
    ·exact hC j h
    ·obtain rfl:j=c:=by omega
     rw [<- hn,hr1,b3,b4];rfl
   ·simp only [go_sem,seval]
 ·intro _ _ hC;have hlv:lG b.qs=true:=List.all_eq_true.2 fun j hj=>hC j (List.mem_range.1 hj)
  rw [hlv,Bool.and_true];clear hC hlv hl1r hA;simp only [go_sem,seval];refine aC.count b.ts.length [1] [32] (fun i=>[(10,.int .i64 i)]) (fun i=>[]) (fun i=>∀ j < i,kG (eL b.next) eo b.ts j=true) (by simp) ?_ ?_
  ·simp only [go_sem,seval]<;>simp
  intro i hi hI;simp only [go_sem,seval,aG];refine bJ.aK (fun h=>?_) (fun h=>?_)
  ·have hi':i < b.ts.length:=by omega
   have hw:IntKind.wrap .i64 ((i:Int)+1)=((i+1:Nat):Int):=by rw [bz (by omega) (by omega)];omega
   have hm:=aD (c:=aI.cells) b.ts hi';have h1:=rV b.ts[i];have h2:=bn b.ts[i].no 1 b.next
   have e0:=nj (i:=i) hI;have e1:kG (eL b.next) eo b.ts i=false->lZ (eL b.next) eo b.ts=false:=fun hx=>rq hi' hx
   have hte:eL b.next b.ts[i]=(b.ts[i].okB&&within b.ts[i].no 1 b.next):=by rw [Bool.eq_iff_iff];simp [eL,within]
   simp only [aI.cells] at hm h1;rcases Nat.eq_zero_or_pos i with rfl | hpos
   ·have hk:=gz (ok:=eL b.next) (lt:=eo) hi';rw [hte] at hk;clear hte;simp only [go_sem,seval,hm,aG]
    repeat' with_reducible first|apply And.intro|exact .dq|refine aa.pure (by assumption) ?_|refine aa.pure (h1) ?_|refine aa.pure (h2) ?_|refine .aM (fun h=>?_) fun h=>?_|refine .aK (fun h=>?_) fun h=>?_|refine .aO (fun h=>?_) fun h=>?_|refine .split (fun h=>?_) fun h=>?_|refine .id ?_|refine ah.next (by omega) ?_ ?_|exact trivial|simp only [*,go_sem,seval]
    all_goals first
     | omega
     | rfl
     | (refine e0 ?_;clear e0 e1;rw [hk];clear hk;simp_all;done)
     | (rw [e1 ?_];clear e0 e1;rw [hk];clear hk;simp_all;done)
   ·obtain ⟨j,rfl⟩:∃ j,i=j+1:=⟨i-1,by omega⟩
    have hj:j < b.ts.length:=by omega
    have hw1:IntKind.wrap .i64 (((j+1:Nat):Int)-1)=(j:Int):=by rw [bz (by omega) (by omega)];omega
    have hk:=fQ (ok:=eL b.next) (lt:=eo) hi';rw [hte,Ln] at hk;clear hte;have hmj:=aD (c:=aI.cells) b.ts hj;simp only [aI.cells] at hmj;simp only [go_sem,seval,hm,aG]
    repeat' with_reducible first|apply And.intro|exact .dq|refine aa.pure (by assumption) ?_|refine aa.pure (h1) ?_|refine aa.pure (h2) ?_|refine .aM (fun h=>?_) fun h=>?_|refine .aK (fun h=>?_) fun h=>?_|refine .aO (fun h=>?_) fun h=>?_|refine .split (fun h=>?_) fun h=>?_|refine .id ?_|refine ah.next (by omega) ?_ ?_|exact trivial|simp only [*,go_sem,seval,hmj,aG]
    all_goals first
     | omega
     | rfl
     | (refine e0 ?_;clear e0 e1;rw [hk];clear hk;simp_all;done)
     | (refine e0 ?_;clear e0 e1;rw [hk];clear hk;simp_all;omega)
     | (rw [e1 ?_];clear e0 e1;rw [hk];clear hk;simp_all;done)
     | (rw [e1 ?_];clear e0 e1;rw [hk];clear hk;simp_all;omega)
  ·have hT:=lY (fun j (hj:j < b.ts.length)=>hI j (by omega));simp only [go_sem,seval,hT]
theorem ku (r:au) (n:Int) (hl:r.small):Abs.Spec Tryz.prog 118 [] [.agg r.cells,.int .i64 n] [] (.bI [.agg (eP av.a n ⟨0,0,0,0⟩ r.xs).cells,.bool (decide (0<=fT av.a n r.xs))]):=by
 obtain ⟨l1,l2,l3⟩:=hl;simp only [au.cells];refine bg 28 2 [.cell 4 85,.tmp 5] mixed Tryz.func118 ?_;simp only [go_sem,seval,aG];refine aC.walk (S:=Unit) r.xs.length [1,2,4] [48,80] (fun i _=>[(6,.int .i64 i)]) (fun i _=>[]) (fun i _=>∀ j (hj:j < r.xs.length),j < i->r.xs[j].a≠n) () (by intros;omega) ?_ ?_ ?_
 ·simp only [go_sem,seval]<;>simp
 ·intro i _ hi hdi hw hI;have hm:=aD (c:=av.cells) r.xs hi;have hlt:(i:Int) < (r.xs.length:Int):=by omega
  simp only [av.cells] at hm |-;simp only [go_sem,seval,aG,hdi,hm];(with_reducible and_intros)<;>first|exact .dq|omega|skip
  cases hb:r.xs[i].a==n
  ·have hb2:r.xs[i].a≠n:=by simpa using hb
   simp only [go_sem,seval,hw];refine ah.step () hi ?_ ?_
   ·intro j hj hji;rcases Nat.lt_or_ge j i with h | h
    ·exact hI j hj h
    ·obtain rfl:j=i:=by omega
     exact hb2
   ·simp only [go_sem,seval]
  ·have hb2:r.xs[i].a=n:=by simpa using hb
   obtain ⟨g1,g2⟩:=gW (z:=(⟨0,0,0,0⟩:av)) hi hI hb2;have g3:decide (0<=(i:Int))=true:=decide_eq_true (by omega);rw [g1,g2,g3];simp only [go_sem,seval,hm,aG];(with_reducible and_intros)<;>first|exact .dq|omega|skip
 ·intro _ hdx hI;obtain ⟨g1,g2⟩:=fR (z:=(⟨0,0,0,0⟩:av)) (fun j hj=>hI j hj hj);rw [g1,g2];simp only [go_sem,seval,aG,hdx,av.cells]
theorem Mp {a:aH} {bs:List bp} (h:∀ b∈bs,b.cE):eW (gw a bs):=by
 induction bs with
 | nil=>exact ⟨by simp [gw],by simp [gw]⟩
 | cons b r ih =>
  simp only [gw];split
  ·exact (h b (by simp)).2.2.2
  ·exact ih fun b hb=>h b (by simp [hb])
theorem aaW (a:av) (n:Int):bP (a.V n)=true:=by
 simp only [av.V];split
 ·unfold R6;split
  ·decide
  ·split
   ·assumption
   ·decide
 ·decide
theorem P8 (r:au) (w c:Int) (ps:List eO):∀ n∈iS r w c ps,bP n=true:=by
 intro n hn;simp only [iS,List.mem_map] at hn;obtain ⟨x,_,rfl⟩:=hn;exact aaW _ _
theorem yp {l:bq} (h:l.okB=true) (a:aH):bP (gw a l.bs)=true:=by
 have h1:=(VH h).2;clear h;generalize l.bs=bs at h1
 induction bs with
 | nil=>rfl
 | cons b r ih =>
  simp only [gw];split
  ·exact h1 b (by simp)
  ·exact ih fun z hz=>h1 z (by simp [hz])
theorem nR {n:Int} (h:bP n=true):eW n:=by have:=cm.1 h;exact ⟨by omega,by omega⟩
theorem D3 (l:bq) (r:au) (ps:List eO) (w c:Int) (hl:l.bs.length < 2 ^ 29) (hr:r.small) (hp:ps.length < 2 ^ 29) (hb:∀ b∈l.bs,b.cE) :
  Abs.Spec Tryz.prog 194 [] [.agg l.cells,.agg r.cells,.sl 3 (pl ps),.int .i64 w,.int .i64 c] [] (.bI [.int .i64 (HI l r ps w c),.int .i64 (GU l r ps w c)]):=by
 have h1:=gX l (by omega) hb;have h2:=dK r hr;have h3:=mH ps (by omega);have h4:=j0 l ⟨2,w,c⟩ (by omega);have h5:=fun n=>ku r n hr
 simp only [bq.cells,aH.cells] at h1 h4 |-;simp only [au.cells] at h2 h5 |-;refine bg 97 5 [.tmp 10,.tmp 11] mixed Tryz.func194 ?_;simp only [go_sem,seval];refine aa.pure h1 ?_;cases b1:l.okB
 ·have e:u0 l r ps=14:=by simp [u0,b1]
  have e1:GU l r ps w c=14:=by simp [GU,e]
  have e2:HI l r ps w c=0:=by simp [HI,e]
  simp only [go_sem,seval,e1,e2]
 simp only [go_sem,seval];refine aa.pure h2 ?_;cases b2:r.okB
 ·have e:u0 l r ps=14:=by simp [u0,b2]
  have e1:GU l r ps w c=14:=by simp [GU,e]
  have e2:HI l r ps w c=0:=by simp [HI,e]
  simp only [go_sem,seval,e1,e2]
 simp only [go_sem,seval];refine aa.pure h3 ?_;cases b3:gf ps
 ·have e:u0 l r ps=14:=by simp [u0,b3]
  have e1:GU l r ps w c=14:=by simp [GU,e]
  have e2:HI l r ps w c=0:=by simp [HI,e]
  simp only [go_sem,seval,e1,e2]
 have e:u0 l r ps=0:=by simp [u0,b1,b2,b3]
 have e1:GU l r ps w c=if jj r w c ps != 0 then jj r w c ps else ru (gw ⟨2,w,c⟩ l.bs :: iS r w c ps):=by simp [GU,e]
 have e2:HI l r ps w c=if jj r w c ps != 0 then 0 else rz (gw ⟨2,w,c⟩ l.bs :: iS r w c ps):=by simp [HI,e]
 rw [e1,e2];clear e1 e2 e;simp only [go_sem,seval];refine aa.pure h4 ?_;have hoin:=yp b1 ⟨2,w,c⟩;obtain ⟨o,ho⟩:=aL (gw ⟨2,w,c⟩ l.bs);rw [<- ho] at hoin |-;simp only [go_sem,seval];refine aC.walk (S:=Unit) ps.length [2,3,4,6] [112] (fun i _=>[(13,.int .i64 i),(12,.ref 1424)]) (fun i _=>[(1424,.own 1 (ints (o :: iS r w c (ps.take i))))]) (fun i _=>jj r w c (ps.drop i)=jj r w c ps) () rfl ?_ ?_ ?_
 ·simp only [go_sem,seval]<;>simp [iS,ints]
 ·intro i _ hi' hdi hw hI;have hstep:=L0 r w c ps hi';have hA:=h5 ps[i].bG;have hvl:=FJ r w c (ps.take i);have htl:(ps.take i).length=i:=by simp;omega
  have hli:(i:Int) < (ps.length:Int):=by omega
  rw [MG hi'] at hI;simp only [jj] at hI;obtain ⟨a,ha⟩:=aL (BR r ps[i]);have ha':eP av.a ps[i].bG ⟨0,0,0,0⟩ r.xs=a:=ha.symm;rw [ha'] at hA;simp only [KR,<- ha] at hI hstep;have hv:=uX a ps[i].units;simp only [av.cells] at hA hv;clear h1 h2 h3 h4 h5;simp only [go_sem,seval,hdi,mT ps hi'];(with_reducible and_intros)<;>first|exact .dq|omega|skip
  refine aa.pure hA ?_;cases p1:decide (0<=fT av.a ps[i].bG r.xs)
  ·simp only [p1,Bool.false_and,fY,if_false] at hI hstep;simp only [go_sem,seval,p1,hw];(with_reducible and_intros)<;>first|exact .dq|omega|skip
   refine ah.step () hi' hI ?_;simp only [go_sem,seval,hstep]
  cases p2:ps[i].who==w
  ·simp only [p1,p2,Bool.false_and,Bool.true_and,fY,if_false] at hI hstep;simp only [go_sem,seval,p1,bne,p2,hw,mT ps hi'];(with_reducible and_intros)<;>first|exact .dq|omega|skip
   refine ah.step () hi' hI ?_;simp only [go_sem,seval,hstep]
  cases p3:a.b==c
  ·simp only [p1,p2,p3,Bool.false_and,Bool.and_false,Bool.true_and,fY,if_false] at hI hstep;simp only [go_sem,seval,p1,bne,p2,p3,hw,mT ps hi'];(with_reducible and_intros)<;>first|exact .dq|omega|skip
   refine ah.step () hi' hI ?_;simp only [go_sem,seval,hstep]
  simp only [p1,p2,p3,Bool.true_and,Bool.and_self,if_true] at hI hstep;simp only [go_sem,seval,p1,bne,p2,p3,mT ps hi'];(with_reducible and_intros)<;>first|exact .dq|omega|skip
  refine aa.pure hv ?_;cases p4:a.E ps[i].units==0
  ·have p4':(a.E ps[i].units != 0)=true:=by simp [bne,p4]
   simp only [p4',if_true] at hI;have hF:jj r w c ps=a.E ps[i].units:=hI.symm;simp only [go_sem,seval,bne,p4,hF,Bool.not_false,if_true]
  ·have p4':(a.E ps[i].units != 0)=false:=by simp [bne,p4]
   simp only [p4',fY,if_false] at hI;simp only [go_sem,seval,bne,p4,hw,ay];(with_reducible and_intros)<;>first|exact .dq|omega|skip
   refine ah.step () hi' hI ?_;simp only [go_sem,seval,hstep]<;>simp [ints]
 ·intro _ hdx hI;simp only [List.drop_length,jj] at hI;have hlen:=FJ r w c ps
  have hall:∀ n∈o :: iS r w c ps,bP n=true:=fun n hn=>by
   rcases List.mem_cons.1 hn with rfl | hn
   ·exact hoin
   ·exact P8 r w c ps n hn
  have hs:=ct (o :: iS r w c ps) (fun n hn=>nR (hall n hn)) (by simp;omega);have hright:=Ez hall;rw [<- hI];simp only [ru,rz,hright,if_true,Bool.true_and];simp only [go_sem,seval,hdx,List.take_length];refine aa.gen [] [] true (by simp) ?_;simp only [go_sem,seval];refine aY.intro hs ?_;cases hin:bP (az (o :: iS r w c ps))
  ·simp only [go_sem,seval,hin]<;>simp
  ·simp only [go_sem,seval,hin,addN]<;>simp
theorem uS (s:af) (w c:Int) (hs:s.fit) (hr:s.cE) (hl:s.aU.bs.length < 2 ^ 29) (hp:s.ps.length < 2 ^ 29):Abs.Spec Tryz.prog 140 [] [.agg s.cells,.int .i64 w,.int .i64 c] [] (.bI [.int .i64 (Po s w c),.int .i64 (Ue s w c)]):=by
 obtain ⟨hro,hb,_,_⟩:=hs;have h1:=D3 s.aU s.aj s.ps w c hl hro hp hr.bs;have h2:=gR s.book hb hr.qs;have h3:=Cw s.aj w c s.book.qs hro hb.2;simp only [bq.cells,au.cells,aF.cells] at h1 h2 h3;simp only [af.cells,Po,Ue];refine bg 63 3 [.tmp 6,.tmp 7] mixed Tryz.func140 ?_;simp only [go_sem,seval];refine aa.pure h1 ?_
 by_cases e1:GU s.aU s.aj s.ps w c=0
 case neg =>
  have b1:(GU s.aU s.aj s.ps w c==0)=false:=by simpa using e1
  simp only [go_sem,seval,bne,b1,if_neg e1]
 have hin1:=(abT e1).2.2.2;have hin3:=K5 s.aj w c s.book.qs;have b1:(GU s.aU s.aj s.ps w c==0)=true:=by simpa using e1
 simp only [go_sem,seval,bne,b1,if_pos e1];refine aa.pure h2 ?_;cases b2:s.book.okB
 ·simp only [go_sem,seval,b2]
 simp only [go_sem,seval,b2];refine aa.pure h3 ?_
 by_cases e3:AV s.aj w c s.book.qs=0
 case neg =>
  have b3:(AV s.aj w c s.book.qs==0)=false:=by simpa using e3
  simp only [go_sem,seval,bne,b3,if_neg e3]
 have b3:(AV s.aj w c s.book.qs==0)=true:=by simpa using e3
 simp only [if_pos e3];obtain ⟨M,hM⟩:=aL (zE s.aj w c s.book.qs);obtain ⟨C,hC⟩:=aL (HI s.aU s.aj s.ps w c);rw [<- hC] at hin1 |-;rw [<- hM] at hin3 |-;have i1:=cm.1 hin1;have i3:=cm.1 hin3;have hw:IntKind.wrap .i64 (0-C) = -C:=by rw [bz (by omega) (by omega)];omega
 have hA:=ct [M,-C] (by intro n hn;simp only [List.mem_cons,List.not_mem_nil,or_false] at hn;rcases hn with rfl | rfl<;>exact ⟨by omega,by omega⟩) (by simp);have hsum:az [M,-C]=M-C:=by simp [az];omega
 simp only [addN,hsum,ints,List.map_cons,List.map_nil] at hA;simp only [go_sem,seval,bne,b3,hw];refine aa.gen [] [] true (by simp) ?_;simp only [go_sem,seval];refine aY.intro hA ?_;simp only [Ug,UI,hin1,hin3,Bool.true_and,Bool.and_self,if_true];cases hd:bP (M-C)
 ·by_cases e4:M<=C
  ·have d4:decide (C < M)=false:=decide_eq_false (by omega);simp only [go_sem,seval,hd,d4,if_pos e4,fY,if_false]<;>simp
  ·have d4:decide (C < M)=true:=decide_eq_true (by omega);simp only [go_sem,seval,hd,d4,if_neg e4,fY,if_false]
 ·by_cases e4:M<=C
  ·have hmax:max (M-C) 0=0:=by omega
   simp only [go_sem,seval,hd,hmax,if_pos e4]
  ·have hmax:max (M-C) 0=M-C:=by omega
   simp only [go_sem,seval,hd,hmax,if_neg e4]
deriving instance DecidableEq for ak,aq,av,bp,aH
theorem ig {A:Type} {xs ys:List A} (hl:xs.length=ys.length) (h:∀ j (h1:j < xs.length) (h2:j < ys.length),j < xs.length->xs[j]=ys[j]):xs=ys:=List.ext_getElem hl fun j h1 h2=>h j h1 h2 h1
theorem jA {A:Type} {xs ys:List A} {i:Nat} (hI:∀ j (h1:j < xs.length) (h2:j < ys.length),j < i->xs[j]=ys[j]) (h1:i < xs.length) (h2:i < ys.length) (he:xs[i]=ys[i]):∀ j (h1:j < xs.length) (h2:j < ys.length),j < i+1->xs[j]=ys[j]:=by
 intro j a b hj;rcases Nat.lt_or_ge j i with h | h
 ·exact hI j a b h
 ·obtain rfl:j=i:=by omega
  exact he
def dM.ch (x:dM):Nat->Int
 | 0=>x.c0 | 1=>x.c1 | 2=>x.c2 | 3=>x.c3 | _=>x.c4
end Go.Proofs.YtnkobepdbkmedaaGreat
