/- The reference's margin, and what follows. No theorem of a claim. -/
import Derived.Test.YtnkobepdbkmedaaGreatKC
import Derived.Test.YtnkobepdbkmedaaGreatKA
set_option linter.unusedSimpArgs false
set_option linter.unusedVariables false
set_option maxHeartbeats 4000000
set_option maxRecDepth 16000
namespace Go.Proofs.YtnkobepdbkmedaaGreat
open Go.Abs
theorem RO (p:aA):within p.aV (-1099511627776) 1099511627776=yl p:=by
 rw [Bool.eq_iff_iff];simp [within,yl]
theorem Qn (j:Nat) (p:gL):-p.q*(p.i.mult*p.i.sh j)=rP j p:=by rw [rP,Int.mul_assoc]
theorem BC (r:aq) (w c:Int) (qs:List aA) (hr:r.small) (hq:qs.length < 2 ^ 30):Abs.Spec Tryz.prog 219 [] [.agg r.cells,.int .i64 w,.int .i64 c,.sl 4 (qs.map aA.cells)] [] (.bH [.agg (DU r w c qs),.int .i64 (uo r w c qs)]):=by
 have h2:=dJ r hr;have h5:=fun n=>dc r n hr
 have hz0:=qT [];simp only [aq.cells] at h2 h5 |-;refine bg 115 4 [.cell 8 60,.tmp 9] mixed Tryz.func219 ?_;simp only [go_sem,seval];refine aa.pure h2 ?_;cases b2:r.okB
 ·have e:Pg r qs=14:=by simp [Pg,b2]
  have e1:uo r w c qs=14:=by simp [uo,e]
  have e2:DU r w c qs=fN [] 0:=by simp [DU,e1]
  rw [e1,e2,hz0];simp only [go_sem,seval]
 simp only [go_sem,seval,aG];refine aC.walk (S:=Unit) qs.length [1,2,3,4,8,10] [80,144,176] (fun i _=>[(11,.int .i64 i)]) (fun i _=>[]) (fun i _=>∀ j (hj:j < qs.length),j < i->yl qs[j]=true) () (by intros;omega) ?_ ?_ ?_
 ·simp only [go_sem,seval]<;>simp
 ·intro i _ hi hdi hwi hI;have hm:=aD (c:=aA.cells) qs hi;have hv:=eM qs[i].aV (-1099511627776) 1099511627776;rw [RO] at hv;simp only [aA.cells] at hm;simp only [go_sem,seval,aG,hdi,hm];(with_reducible and_intros)<;>first|exact .dq|omega|skip
  refine aa.pure hv ?_;cases hb:yl qs[i]
  ·have:qs.all yl=false:=by
    cases hc:qs.all yl
    ·rfl
    ·rw [List.all_eq_true.1 hc _ (List.getElem_mem hi)] at hb;cases hb
   have e:Pg r qs=3:=by simp [Pg,b2,this]
   have e1:uo r w c qs=3:=by simp [uo,e]
   have e2:DU r w c qs=fN [] 0:=by simp [DU,e1]
   rw [e1,e2,hz0];simp only [go_sem,seval]
  ·simp only [go_sem,seval,hwi];refine ah.step () hi ?_ ?_
   ·intro j hj hji;rcases Nat.lt_or_ge j i with h | h
    ·exact hI j hj h
    ·obtain rfl:j=i:=by omega
     exact hb
   ·simp only [go_sem,seval]
 intro _ hdx hI
 have hall:qs.all yl=true:=List.all_eq_true.2 fun p hp=>by
  obtain ⟨j,hj,rfl⟩:=List.mem_iff_getElem.1 hp;exact hI j hj hj
 have hE:Pg r qs=0:=by simp [Pg,b2,hall]
 have hpo:=JU (w:=w) (c:=c) hE;have hpl:=AF r w c qs;have e2:uo r w c qs=if l8 (mO r w c qs) then 1 else 0:=by simp [uo,hE]
 simp only [DU,e2];clear e2 hI;have hz:=qT (mO r w c qs);simp only [go_sem,seval,aG,hdx];clear hdx;refine aC.walk (S:=Unit) 6 [1,2,3,4,8,10] [80,144] (fun i _=>[(12,.int .i64 i)]) (fun i _=>[(176,.box (fN (mO r w c qs) i))]) (fun i _=>∀ j < i,bP (lp (mO r w c qs) j)=true) () (by intros;omega) ?_ ?_ ?_
 ·simp only [go_sem,seval,hz]<;>simp
 ·intro j _ hj hdj hwj hI;have hdj:decide ((j:Int) < 6)=true:=hdj;have hall2:=Sd hpo j (by omega);have hset:=Ia (mO r w c qs) hj;obtain ⟨B,hB⟩:=aL (fN (mO r w c qs) j);have hBl:B.length=6:=by rw [hB];rfl
  have hleaf1:∀ d∈fN (mO r w c qs) (j+1),sv d=true:=by simp [fN,je,sv]
  have hleaf:∀ d∈B,sv d=true:=by rw [hB];simp [fN,je,sv]
  rw [<- hB] at hset |-;simp only [go_sem,seval,hdj];refine aC.walk (S:=Unit) qs.length [1,2,3,4,8,10,12] [80,144,176] (fun i _=>[(14,.int .i64 i),(13,.ref 1504)]) (fun i _=>[(1504,.own 2 (kf ((mO r w c (qs.take i)).map (rP j))))]) (fun i _=>True) () trivial ?_ ?_ ?_
  ·simp only [go_sem,seval]<;>simp [kf,mO,gr hleaf,nT hleaf]
  ·intro i _ hi hdi hwi _;have hm:=aD (c:=aA.cells) qs hi;have hs:=Js r w c qs hi;have hlen:=AF r w c (qs.take i);have hlt:(qs.take i).length=i:=by simp;omega
   have hA:=h5 qs[i].inst;obtain ⟨x,hx⟩:=aL (aT r qs[i].inst);have hxok:aZ r qs[i].inst=true->x.ok=true:=fun h=>by rw [hx];exact tZ b2 h
   have hqty:=List.all_eq_true.1 hall qs[i] (List.getElem_mem hi);have hwl:(kf ((mO r w c (qs.take i)).map (rP j))).length<=i:=by simp [kf];omega
   have hlI:(i:Int) < (qs.length:Int):=by omega
   simp only [Ex,<- hx] at hs;rw [<- hx] at hA;simp only [aA.cells] at hm;simp only [au.cells] at hA;simp only [go_sem,seval,aG,hdi,hm];(with_reducible and_intros)<;>first|exact .dq|omega|skip
   refine aa.pure hA ?_;cases p1:aZ r qs[i].inst
   ·simp only [p1,Bool.false_and,fZ,if_false] at hs;simp only [go_sem,seval,aG,p1,hwi];(with_reducible and_intros)<;>first|exact .dq|omega|skip
    refine ah.step () hi trivial ?_;simp only [go_sem,seval,hs]<;>simp [gr hleaf,nT hleaf]
   cases p2:qs[i].who==w
   ·simp only [p1,p2,Bool.false_and,Bool.true_and,fZ,if_false] at hs;simp only [go_sem,seval,aG,hm,p1,p2,hwi];(with_reducible and_intros)<;>first|exact .dq|omega|skip
    refine ah.step () hi trivial ?_;simp only [go_sem,seval,hs]<;>simp [gr hleaf,nT hleaf]
   cases p3:x.cur==c
   ·simp only [p1,p2,p3,Bool.and_false,Bool.true_and,fZ,if_false] at hs;simp only [go_sem,seval,aG,hm,p1,p2,p3,hwi];(with_reducible and_intros)<;>first|exact .dq|omega|skip
    refine ah.step () hi trivial ?_;simp only [go_sem,seval,hs]<;>simp [gr hleaf,nT hleaf]
   simp only [p1,p2,p3,Bool.and_self,if_true] at hs;have hk:=hxok p1;obtain ⟨⟨m1,m2⟩,-⟩:=og hk;have hsr:=Cc hk j;simp only [yl,bW,Bool.not_eq_true',decide_eq_false_iff_not] at hqty;have hsa:=abm ⟨x,qs[i].aV⟩ hj;have r1:=eU (a:=x.mult) (b:=x.sh j) (A:=1024) (B:=1073741824) (by omega) hsr;have r1:-1099511627776<=x.mult*x.sh j/\x.mult*x.sh j<=1099511627776:=r1;have w1:IntKind.wrap .i64 (0-qs[i].aV) = -qs[i].aV:=by rw [bz (by omega) (by omega)];omega
   have w2:IntKind.wrap .i64 (x.mult*x.sh j)=x.mult*x.sh j:=bz (by omega) (by omega);have ht:=lS (-qs[i].aV) (x.mult*x.sh j) ⟨by omega,by omega⟩ ⟨by omega,by omega⟩;have hF:-qs[i].aV*(x.mult*x.sh j)=rP j ⟨x,qs[i].aV⟩:=Qn j ⟨x,qs[i].aV⟩;rw [hF] at ht;simp only [wd] at ht
   have hix2:(List.drop (6+j*1) x.cells).headD .undef=.int .i64 (x.sh j):=by
    rcases j with _ | _ | _ | _ | _ | _ | j<;>first | rfl | omega
   simp only [au.cells] at hix2;simp only [go_sem,seval,aG,hm,p1,p2,p3,hwi,w1,hix2,w2];(with_reducible and_intros)<;>first|exact .dq|omega|skip
   refine aa.pure ht ?_;simp only [go_sem,seval,hwi];(with_reducible and_intros)<;>first|exact .dq|omega|skip
   refine ah.step () hi trivial ?_;simp only [go_sem,seval,hs]<;>simp [wd,kf,gr hleaf,nT hleaf]
  ·intro _ hdx _;have hs:=jO ((mO r w c qs).map (rP j)) (by simp;omega) hall2.1;have hI2:=jV (lp (mO r w c qs) j);have e:az ((mO r w c qs).map (rP j))=lp (mO r w c qs) j:=rfl;rw [e,hall2.2,if_pos rfl] at hs;obtain ⟨S,hS⟩:=aL (lp (mO r w c qs) j);rw [<- hS] at hs hI2 hset
   have hgood:bP S=true->∀ k < j+1,bP (lp (mO r w c qs) k)=true:=fun hx k hk=>by
    rcases Nat.lt_or_ge k j with h | h
    ·exact hI k h
    ·obtain rfl:k=j:=by omega
     rw [<- hS];exact hx
   have hbad:bP S=false->l8 (mO r w c qs)=true:=fun hx=>by
    simp only [l8,List.any_eq_true,List.mem_range];exact ⟨j,hj,by rw [<- hS,hx];rfl⟩
   simp only [wd] at hs hI2;simp only [go_sem,seval,aG,hdx,List.take_length];refine aa.gen [] [] true (by simp) ?_;simp only [go_sem,seval];refine aY.intro hs ?_;simp only [go_sem,seval];refine aa.pure hI2 ?_;cases hi:bP S
   ·have hb:=hbad hi;simp only [go_sem,seval,hi,hb,fN,je]
   ·simp only [go_sem,seval] at hset;simp only [go_sem,seval,hi,hset,hwj];(with_reducible and_intros)<;>first|exact .dq|omega|skip
    refine ah.step () hj (hgood hi) ?_;simp only [go_sem,seval];exact gr hleaf1
 ·intro _ hdx hI;have hdx:decide ((6:Int) < 6)=false:=hdx
  have hb:l8 (mO r w c qs)=false:=by
   simp only [l8,List.any_eq_false,List.mem_range];intro k hk;simp [hI k hk]
  simp only [go_sem,seval,hdx,hb,fN,je]
theorem C1 (r:aq) (w c:Int) (qs:List aA) (hr:r.small) (hq:qs.length < 2 ^ 30):Abs.Spec Tryz.prog 195 [] [.agg r.cells,.int .i64 w,.int .i64 c,.sl 4 (qs.map aA.cells)] [] (.bH [.int .i64 (zJ r w c qs),.int .i64 (B6 r w c qs)]):=by
 have hL:=BC r w c qs hr hq;have h5:=fun n=>dc r n hr
 simp only [aq.cells] at hL h5 |-;refine bg 114 4 [.tmp 8,.tmp 9] mixed Tryz.func195 ?_;simp only [go_sem,seval];refine aa.pure hL ?_
 by_cases hE:uo r w c qs=0
 case neg =>
  have b1:(uo r w c qs != 0)=true:=by simpa using hE
  have e1:B6 r w c qs=uo r w c qs:=by simp [B6,hE]
  have e2:zJ r w c qs=0:=by simp [zJ,hE]
  have e3:DU r w c qs=fN [] 0:=by simp [DU,hE]
  rw [e1,e2,e3,qT];simp only [go_sem,seval,b1]
 obtain ⟨hpc,hbad⟩:=NN hE;have hpo:=JU (w:=w) (c:=c) hpc;have hpl:=AF r w c qs
 have hko:r.okB=true/\qs.all yl=true:=by
  unfold Pg at hpc;split at hpc
  ·rename_i h1;split at hpc
   ·rename_i h2;exact ⟨h1,h2⟩
   ·cases hpc
  ·cases hpc
 have e2:B6 r w c qs=if bP (HM (mO r w c qs)) then 0 else 1:=by simp [B6,hE]
 have e3:zJ r w c qs=if bP (HM (mO r w c qs)) then HM (mO r w c qs) else 0:=by simp [zJ,hE]
 have e4:DU r w c qs=[.int .i64 (lp (mO r w c qs) 0),.int .i64 (lp (mO r w c qs) 1),.int .i64 (lp (mO r w c qs) 2),.int .i64 (lp (mO r w c qs) 3),.int .i64 (lp (mO r w c qs) 4),.int .i64 (lp (mO r w c qs) 5)]:=by simp [DU,hE,fN,je]
 rw [e2,e3,e4];clear e2 e3 e4 hL;have hin:=LM hbad;obtain ⟨T,hT⟩:=aL (HM (mO r w c qs));rw [<- hT];simp only [HM] at hT;obtain ⟨L,hLd⟩:=aL (lp (mO r w c qs));rw [<- hLd] at hin hT |-;simp only [go_sem,seval,hE];refine aC.walk (S:=Unit) 6 [1,2,3,4,10] [80,176] (fun i _=>[(13,.int .i64 i),(12,.int .i64 (uX L i))]) (fun i _=>[]) (fun i _=>True) () trivial ?_ ?_ ?_
 ·simp only [go_sem,seval]<;>simp [uX]
 ·intro i _ hi hdi hwi _;have hdi:decide ((i:Int) < 6)=true:=hdi;have hsx:=Rn L hi;simp only [go_sem,seval,hdi,hsx,hwi];(with_reducible and_intros)<;>first|exact .dq|omega|skip
  refine ah.step () hi trivial ?_;simp only [go_sem,seval,uX]
 intro _ hdx _;have hdx:decide ((6:Int) < 6)=false:=hdx;have hmr:=Jm (f:=L) 6 hin;obtain ⟨M,hM⟩:=aL (uX L 6);rw [<- hM] at hmr hT |-;have hO:=qR M (by omega);simp only [wd] at hO;simp only [go_sem,seval,hdx];refine aa.pure hO ?_;simp only [go_sem,seval,aG];refine aC.walk (S:=Unit) qs.length [1,2,3,4] [80] (fun i _=>[(15,.int .i64 i),(14,.ref 1552)]) (fun i _=>[(1552,.own 2 (kf (M :: (mO r w c (qs.take i)).map Iz)))]) (fun i _=>True) () trivial ?_ ?_ ?_
 ·simp only [go_sem,seval]<;>simp [kf,wd,mO]
 ·intro i _ hi hdi hwi _;have hm:=aD (c:=aA.cells) qs hi;have hs:=Js r w c qs hi;have hlen:=AF r w c (qs.take i);have hlt:(qs.take i).length=i:=by simp;omega
  have hA:=h5 qs[i].inst;obtain ⟨x,hx⟩:=aL (aT r qs[i].inst);have hxok:aZ r qs[i].inst=true->x.ok=true:=fun h=>by rw [hx];exact tZ hko.1 h
  have hqty:=List.all_eq_true.1 hko.2 qs[i] (List.getElem_mem hi);have hwl:(kf (M :: (mO r w c (qs.take i)).map Iz)).length<=i+1:=by simp [kf];omega
  have hlI:(i:Int) < (qs.length:Int):=by omega
  simp only [Ex,<- hx] at hs;rw [<- hx] at hA;simp only [aA.cells] at hm;simp only [au.cells] at hA;simp only [go_sem,seval,aG,hdi,hm];(with_reducible and_intros)<;>first|exact .dq|omega|skip
  refine aa.pure hA ?_;cases p1:aZ r qs[i].inst
  ·simp only [p1,Bool.false_and,fZ,if_false] at hs;simp only [go_sem,seval,aG,p1,hwi];(with_reducible and_intros)<;>first|exact .dq|omega|skip
   refine ah.step () hi trivial ?_;simp only [go_sem,seval,hs]
  cases p2:qs[i].who==w
  ·simp only [p1,p2,Bool.false_and,Bool.true_and,fZ,if_false] at hs;simp only [go_sem,seval,aG,hm,p1,p2,hwi];(with_reducible and_intros)<;>first|exact .dq|omega|skip
   refine ah.step () hi trivial ?_;simp only [go_sem,seval,hs]
  cases p3:x.cur==c
  ·simp only [p1,p2,p3,Bool.and_false,Bool.true_and,fZ,if_false] at hs;simp only [go_sem,seval,aG,hm,p1,p2,p3,hwi];(with_reducible and_intros)<;>first|exact .dq|omega|skip
   refine ah.step () hi trivial ?_;simp only [go_sem,seval,hs]
  simp only [p1,p2,p3,Bool.and_self,if_true] at hs;have hk:=hxok p1;obtain ⟨-,g1,g2⟩:=og hk;simp only [yl,bW,Bool.not_eq_true',decide_eq_false_iff_not] at hqty;have w1:IntKind.wrap .i64 (0-qs[i].aV) = -qs[i].aV:=by rw [bz (by omega) (by omega)];omega
  have ht:=lS (max qs[i].aV (-qs[i].aV)) x.add ⟨by omega,by omega⟩ ⟨by omega,by omega⟩;have hF:max qs[i].aV (-qs[i].aV)*x.add=Iz ⟨x,qs[i].aV⟩:=rfl;rw [hF] at ht;simp only [wd] at ht;simp only [go_sem,seval,aG,hm,p1,p2,p3,hwi,w1];(with_reducible and_intros)<;>first|exact .dq|omega|skip
  refine aa.pure ht ?_;simp only [go_sem,seval,hwi];(with_reducible and_intros)<;>first|exact .dq|omega|skip
  refine ah.step () hi trivial ?_;simp only [go_sem,seval,hs]<;>simp [wd,kf]
 ·intro _ hdx _
  have hb:∀ n∈M :: (mO r w c qs).map Iz,-1208925819614629174706176<=n/\n<=1208925819614629174706176:=by
   intro n hn;rcases List.mem_cons.1 hn with rfl | hn
   ·omega
   ·obtain ⟨p,hp,rfl⟩:=List.mem_map.1 hn;exact Lm (hpo p hp)
  have hs:=jO (M :: (mO r w c qs).map Iz) (by simp;omega) (fun n hn=>sY (hb n hn) (by omega));have h2:=vm (B:=1208925819614629174706176) hb;rw [<- hT] at hs h2;simp only [List.length_cons,aG] at h2;have hin2:oY T=true:=sY (B:=1208925819614629174706176*(((mO r w c qs).length+1:Nat):Int)) h2 (by omega);have hI2:=jV T;rw [hin2,if_pos rfl] at hs;simp only [wd] at hs hI2;simp only [go_sem,seval,aG,hdx,List.take_length];refine aa.gen [] [] true (by simp) ?_;simp only [go_sem,seval];refine aY.intro hs ?_;simp only [go_sem,seval];refine aa.pure hI2 ?_;cases hi:bP T<;>simp only [go_sem,seval,hi]<;>simp
theorem Spec.frozen {P:Program} {f:FuncId} {ds hs':List D} {d:D} (h:Abs.Spec P f [] ds hs' d) (fz:List Nat) {hs2:List D} {d2:D} (hd:(dL fz (sq [(0,d)] (qY 0 hs'))).t 0=d2) (ho:∀ r,(dL fz (sq [(0,d)] (qY 0 hs'))).o r=hs2.getD r .undef):Abs.Spec P f [] ds hs2 d2:=by
 refine ⟨h.1,?_⟩;intro w l0 G0 own0 S0 vs hT hl0 hG hsz hr hobj;refine (h.2 w l0 G0 own0 S0 vs hT hl0 hG hsz hr hobj).mono ?_
 rintro e w' ⟨v,rfl,o⟩
 refine ⟨v,rfl,o.os,o.tape,o.output,o.size,o.old,o.part,?_⟩;obtain ⟨lev,own,S,h1,h2,h3,h4,_⟩:=o.rep
 have hi:Inv w l0 G0 S w' lev own S (sq [(0,d)] (qY 0 hs')) (fun j=>if j=0 then v else Go.undef):=by
  refine ⟨⟨o.os,hT⟩,o.tape,o.output,o.size,o.old,o.part,h1,h2,fun _ _ _=>rfl,?_,?_⟩
  ·intro s
   show aE _ _ (Abs.look [(0,d)] s)
   by_cases hs:s=0
   ·subst hs;simpa [Abs.look] using h3
   ·simp only [Abs.look,if_neg hs];exact .undef _
  ·intro r
   show jR _ _ _ _ _ _ r (Abs.look (qY 0 hs') r)
   rw [n7];simpa using h4 r
 obtain ⟨lev',S',hi'⟩:=Inv.Rp fz hi (fun _ _=>trivial);refine ⟨lev',own,S',hi'.priv,hi'.iu,?_,?_,fun i h=>by cases h⟩
 ·have:=hi'.lg 0;rw [hd] at this;simpa using this
 ·intro r;have:=hi'.objs r
  rwa [ho] at this
def aq.jh (r:aq):Prop:=r.ms.length < 2 ^ 30/\r.ns.length < 2 ^ 30/\r.xs.length < 2 ^ 30
theorem aq.jh.small {r:aq} (h:r.jh):r.small:=⟨by have:=h.1;omega,by have:=h.2.1;omega,by have:=h.2.2;omega⟩
theorem l6 (r:aq) (hr:r.jh):Abs.Spec Tryz.prog 10 [] [.agg r.cells] [.own 3 (r.ms.map ak.cells),.own 12 (r.ns.map au.cells),.own 4 (r.xs.map av.cells)] (.agg [.ref 0,.ref 1,.ref 2]):=by
 obtain ⟨l1,l2,l3⟩:=hr;simp only [aq.cells];refine bg 23 1 [.cell 2 29] mixed Tryz.func10 ?_;simp only [go_sem,seval,aG];omega
theorem oX (b:aF) (hb:b.small):Abs.Spec Tryz.prog 11 [] [.agg b.cells] [.own 7 (b.ts.map aI.cells),.own 4 (b.qs.map aA.cells)] (.agg [.int .i64 b.next,.ref 0,.ref 1]):=by
 obtain ⟨l1,l2⟩:=hb;simp only [aF.cells];refine bg 20 1 [.cell 2 33] mixed Tryz.func11 ?_;simp only [go_sem,seval,aG];omega
theorem GJ (l:bq) (hl:l.bs.length < 2 ^ 30):Abs.Spec Tryz.prog 12 [] [.agg l.cells] [.own 4 (l.bs.map bp.cells)] (.agg [.int .i64 l.last,.ref 0]):=by
 simp only [bq.cells];refine bg 14 1 [.cell 2 36] mixed Tryz.func12 ?_;simp only [go_sem,seval,aG];omega
theorem CY (x:bk) (h:x.fits):Abs.Spec Tryz.prog 13 [] [.agg x.cells] [.own 3 (x.DI.map aN.cells),.own 8 (x.falls.map dO.cells)] (.agg [.int .i64 x.code,.int .i64 x.no,.int .i64 x.bV,.ref 0,.ref 1]):=by
 obtain ⟨h1,h2⟩:=h;simp only [bk.cells];refine bg 24 1 [.cell 2 67] mixed Tryz.func13 ?_;simp only [go_sem,seval,aG];omega
theorem lH (x:bk) (h:x.fits):Abs.Spec Tryz.prog 13 [] [.agg x.cells] [] (.agg x.cells):=by
 refine Spec.frozen (CY x h) [0,1] ?_ ?_
 ·simp only [bk.cells];rfl
 ·intro r;rcases r with _ | _ | r
  ·rfl
  ·rfl
  ·rfl
structure af.small (s:af):Prop where
 aj:s.aj.jh
 book:s.book.small
 aU:s.aU.bs.length < 2 ^ 30
 ps:s.ps.length < 2 ^ 30
 calls:s.calls.length < 2 ^ 30
 aW:s.aW.length < 2 ^ 30
 aJ:s.aJ.length < 2 ^ 30
 rs:∀ x∈s.aJ,x.r.fits
def yd (s:af):List D:=[.int .i64 s.now,.int .i64 s.day,.int .i64 s.phase,.ref 0,.ref 1,.ref 2,.int .i64 s.book.next,.ref 3,.ref 4,.int .i64 s.aU.last,.ref 5,.ref 6,.ref 7,.ref 8,.ref 9]
def E9 (s:af):List D:=[.own 3 (s.aj.ms.map ak.cells),.own 12 (s.aj.ns.map au.cells),.own 4 (s.aj.xs.map av.cells),.own 7 (s.book.ts.map aI.cells),.own 4 (s.book.qs.map aA.cells),.own 4 (s.aU.bs.map bp.cells),.own 3 (pl s.ps),.own 4 (s.calls.map aB.cells),.own 5 (s.aW.map br.cells),.own 7 (s.aJ.map bD.cells)]
theorem ke (s:af) (hs:s.small):Abs.Spec Tryz.prog 5 [] [.agg s.cells] (E9 s) (.agg (yd s)):=by
 have h1:=l6 s.aj hs.aj;have h2:=oX s.book hs.book;have h3:=GJ s.aU hs.aU;have e1:=hs.ps;have e2:=hs.calls;have e3:=hs.aW;have e4:=hs.aJ;simp only [aq.cells] at h1;simp only [aF.cells] at h2;simp only [bq.cells] at h3;simp only [af.cells,E9,yd];refine bg 68 1 [.cell 2 42] mixed Tryz.func5 ?_;simp only [go_sem,seval];(with_reducible and_intros)<;>first|exact .dq|omega|skip
 refine aa.gen [] [] false (by simp) ?_;simp only [go_sem,seval];refine aY.intro h1 ?_;simp only [go_sem,seval];(with_reducible and_intros)<;>first|exact .dq|omega|skip
 refine aa.gen [] [] false (by simp) ?_;simp only [go_sem,seval];refine aY.intro h2 ?_;simp only [go_sem,seval];(with_reducible and_intros)<;>first|exact .dq|omega|skip
 refine aa.gen [] [] false (by simp) ?_;simp only [go_sem,seval];refine aY.intro h3 ?_;simp only [go_sem,seval,aG];(with_reducible and_intros)<;>first|exact .dq|omega|skip
 refine aC.walk (S:=Unit) s.aJ.length [1,2,3] [32,48,160,161,162,208,209,256,352,448,544] (fun i _=>[(4,.int .i64 i)])
  (fun i _=>[(64,.box [.int .i64 s.now,.int .i64 s.day,.int .i64 s.phase,.ref 160,.ref 161,.ref 162,.int .i64 s.book.next,.ref 208,.ref 209,.int .i64 s.aU.last,.ref 256,.ref 352,.ref 448,.ref 544,.ref 1056]),(1056,.own 7 ((s.aJ.take i).map bD.cells))]) (fun _ _=>True) () trivial ?_ ?_ ?_
 ·simp only [go_sem,seval]<;>simp
 ·intro i _ hi hdi hwi _;have hm:=aD (c:=bD.cells) s.aJ hi;have hr:=lH s.aJ[i].r (hs.rs _ (List.getElem_mem hi))
  have hnext:(s.aJ.take (i+1)).map bD.cells=(s.aJ.take i).map bD.cells++[s.aJ[i].cells]:=by
   rw [List.take_succ_eq_append_getElem hi,List.map_append,List.map_cons,List.map_nil]
  have hlt:((s.aJ.take i).map bD.cells).length=i:=by simp;omega
  simp only [bD.cells] at hm;simp only [bk.cells] at hr;simp only [go_sem,seval,hdi,hm,aG];(with_reducible and_intros)<;>first|exact .dq|omega|skip
  refine aa.pure hr ?_;simp only [go_sem,seval,hwi,hlt];(with_reducible and_intros)<;>first|exact .dq|omega|skip
  refine ah.step () hi trivial ?_;simp only [go_sem,seval,hnext,bD.cells]
 ·intro _ hdx _;have ht:(s.aJ.take s.aJ.length).map bD.cells=s.aJ.map bD.cells:=by rw [List.take_length]
  simp only [go_sem,seval,hdx,aG,ht]
def aH.same (x y:aH):Bool:=x.kind==y.kind&&(x.who==y.who&&x.cur==y.cur)
theorem mw {x y:aH}:x.less y=true ↔ x.kind < y.kind\/(x.kind=y.kind/\(x.who < y.who\/(x.who=y.who/\x.cur < y.cur))):=by
 unfold aH.less;split
 ·simp;omega
 ·split<;>simp<;>omega
theorem Jo {bs:List bp} (h:jX bs=true):bs.Pairwise (fun x y=>x.bG.less y.bG=true):=by
 rw [List.pairwise_iff_getElem]
 have step:∀ k (hk:k+1 < bs.length),bs[k].bG.less bs[k+1].bG=true:=fun k hk=>by
  have:=List.all_eq_true.1 h (k+1) (List.mem_range.2 hk);rw [iS hk,bW] at this;exact this.2
 have key:∀ d k (hk:k+d+1 < bs.length),bs[k].bG.less bs[k+d+1].bG=true:=by
  intro d
  induction d with
  | zero=>intro k hk;exact step k hk
  | succ d ih =>
   intro k hk;have h1:=mw.1 (ih k (by omega));have h2:=mw.1 (step (k+d+1) hk);have h3:bs[k].bG.less bs[k+d+1+1].bG=true:=mw.2 (by omega);exact h3
 intro i j hi hj hij;have:=key (j-i-1) i (by omega);have e:i+(j-i-1)+1=j:=by omega
 simpa only [e] using this
theorem abH {l:bq} {r:aq} {ps:List eO} {w c:Int} (h:FU l r ps w c=0):r.okB=true/\ji r w c ps=0/\HI l r ps w c=gB ⟨2,w,c⟩ l.bs+Td r w c ps/\bP (HI l r ps w c)=true:=by
 have h0:vf l r ps=0:=by
  by_cases hb:(vf l r ps != 0)=true
  ·simp only [FU,hb,if_true] at h;exact h
  ·simpa using hb
 have hb0:(vf l r ps != 0)=false:=by simp [h0]
 have hr:r.okB=true:=by
  unfold vf at h0;split at h0
  ·rename_i hh;simp only [bW] at hh;exact hh.1.2
  ·cases h0
 have h1:ji r w c ps=0:=by
  by_cases hb:(ji r w c ps != 0)=true
  ·simp only [FU,hb0,hb,if_true,fZ,if_false] at h;exact h
  ·simpa using hb
 have hb1:(ji r w c ps != 0)=false:=by simp [h1]
 simp only [FU,hb0,hb1,fZ,if_false] at h
 have hs:right (gB ⟨2,w,c⟩ l.bs :: iJ r w c ps)=true/\bP (az (gB ⟨2,w,c⟩ l.bs :: iJ r w c ps))=true:=by
  unfold rA at h;split at h
  ·rename_i hh;split at h
   ·rename_i hi;exact ⟨hh,hi⟩
   ·cases h
  ·cases h
 have hN:HI l r ps w c=az (gB ⟨2,w,c⟩ l.bs :: iJ r w c ps):=by
  simp [HI,hb0,hb1,rz,hs.1,hs.2]
 refine ⟨hr,h1,?_,by rw [hN];exact hs.2⟩;rw [hN];simp only [az,MZ]
def TU (s:af) (w c:Int):Int:=
 if FU s.aU s.aj s.ps w c=0 then (if s.book.okB then (if B6 s.aj w c s.book.qs=0 then (if zJ s.aj w c s.book.qs<=HI s.aU s.aj s.ps w c then 0 else TR (zJ s.aj w c s.book.qs) (HI s.aU s.aj s.ps w c)) else B6 s.aj w c s.book.qs) else 14) else FU s.aU s.aj s.ps w c
def Qc (s:af) (w c:Int):Int:=
 if FU s.aU s.aj s.ps w c=0 then (if s.book.okB then (if B6 s.aj w c s.book.qs=0 then (if zJ s.aj w c s.book.qs<=HI s.aU s.aj s.ps w c then 0 else UZ (zJ s.aj w c s.book.qs) (HI s.aU s.aj s.ps w c)) else 0) else 0) else 0
structure af.fit (s:af):Prop where
 aj:s.aj.small
 book:s.book.small
 aU:s.aU.bs.length < 2 ^ 30
 ps:s.ps.length < 2 ^ 30
theorem Lw (r:aq) (w c:Int) (qs:List aA):bP (zJ r w c qs)=true:=by
 unfold zJ;split
 ·split
  ·assumption
  ·decide
 ·decide
theorem VH {l:bq} (h:l.okB=true):jX l.bs=true/\∀ z∈l.bs,bP z.sum=true:=by
 simp only [bq.okB,bW] at h;refine ⟨h.1.2,fun z hz=>?_⟩;obtain ⟨i,hi,rfl⟩:=List.mem_iff_getElem.1 hz;have:=List.all_eq_true.1 h.1.2 i (List.mem_range.2 hi)
 have hk:j0 l.bs[i]=true:=by
  rcases Nat.eq_zero_or_pos i with rfl | hp
  ·rwa [jF hi] at this
  ·obtain ⟨j,rfl⟩:∃ j,i=j+1:=⟨i-1,by omega⟩
   rw [iS hi,bW] at this;exact this.1
 simp only [j0,bW] at hk;exact hk.2.1
theorem Me {l:List Int} (h:∀ n∈l,eT n) (hl:l.length < 2 ^ 58):(∀ n∈l,oY n=true)/\oY (az l)=true:=by
 have h1:∀ n∈l,-9223372036854775808<=n/\n<=9223372036854775808:=fun n hn=>by have:=h n hn;exact ⟨this.1,by have:=this.2;omega⟩
 refine ⟨fun n hn=>sY (h1 n hn) (by omega),?_⟩;exact sY (B:=9223372036854775808*(l.length:Int)) (vm h1) (by omega)
def addN (l:List Int):Int:=if bP (az l) then az l else 0
theorem cu (l:List Int) (h:∀ n∈l,eT n) (hl:l.length < 2 ^ 30):Abs.Spec Tryz.prog 177 [] [.sl 1 (ints l)] [] (.bH [.int .i64 (addN l),.bool (bP (az l))]):=by
 obtain ⟨h1,h2⟩:=Me h (by omega);have hs:=jO l (by omega) h1;have hI:=jV (az l);rw [h2,if_pos rfl] at hs;simp only [wd] at hs hI;refine bg 33 1 [.tmp 2,.tmp 3] mixed Tryz.func177 ?_;simp only [go_sem,seval,ay];refine aC.walk (S:=Unit) l.length [0] [] (fun i _=>[(5,.int .i64 i),(4,.ref 352)]) (fun i _=>[(352,.own 2 (kf (l.take i)))]) (fun _ _=>True) () trivial ?_ ?_ ?_
 ·simp only [go_sem,seval]<;>simp [kf]
 ·intro i _ hi hdi hwi _;have hO:=qR l[i] (h _ (List.getElem_mem hi));have hnext:kf (l.take (i+1))=kf (l.take i)++[wd l[i]]:=by rw [List.take_succ_eq_append_getElem hi];simp only [kf,List.map_append,List.map_cons,List.map_nil]
  have hlen:(kf (l.take i)).length=i:=by simp [kf];omega
  simp only [wd] at hO;simp only [go_sem,seval,ay,hdi,ints_at l hi];(with_reducible and_intros)<;>first|exact .dq|omega|skip
  refine aa.pure hO ?_;simp only [go_sem,seval,hwi,hlen];(with_reducible and_intros)<;>first|exact .dq|omega|skip
  refine ah.step () hi trivial ?_;simp only [go_sem,seval,hnext]<;>simp [wd]
 ·intro _ hdx _;simp only [go_sem,seval,ay,hdx,List.take_length];refine aa.gen [] [] true (by simp) ?_;simp only [go_sem,seval];refine aY.intro hs ?_;simp only [go_sem,seval];refine aa.pure hI ?_;simp only [go_sem,seval,addN]
theorem fI (x:aH):Abs.Spec Tryz.prog 69 [] [.agg x.cells] [] (.bool x.right):=by
 simp only [aH.cells];refine bg 40 1 [.tmp 2] mixed Tryz.func69 ?_;simp only [go_sem,seval]
 repeat' with_reducible first|apply And.intro|exact .dq|refine aa.pure (by assumption) ?_|refine .aM (fun h=>?_) fun h=>?_|refine .aK (fun h=>?_) fun h=>?_|refine .aO (fun h=>?_) fun h=>?_|refine .split (fun h=>?_) fun h=>?_|refine .id ?_|refine ah.next (by omega) ?_ ?_|exact trivial|simp only [*,go_sem,seval]
 all_goals (try simp only [decide_eq_true_eq,decide_eq_false_iff_not] at *)
 all_goals (unfold aH.right;simp_all [owned];try (intros;omega))
theorem th (x:aH):Abs.Spec Tryz.prog 178 [] [.agg x.cells] [] (.int .i64 x.floor):=by
 have hr:=fI x;simp only [aH.cells] at hr |-;refine bg 15 1 [.tmp 2] mixed Tryz.func178 ?_;simp only [go_sem,seval]
 repeat' with_reducible first|apply And.intro|exact .dq|refine aa.pure (by assumption) ?_|refine aa.pure (hr) ?_|refine .aM (fun h=>?_) fun h=>?_|refine .aK (fun h=>?_) fun h=>?_|refine .aO (fun h=>?_) fun h=>?_|refine .split (fun h=>?_) fun h=>?_|refine .id ?_|refine ah.next (by omega) ?_ ?_|exact trivial|simp only [*,go_sem,seval]
 all_goals (unfold aH.floor;simp [*])
theorem DO (x y:aH):Abs.Spec Tryz.prog 211 [] [.agg x.cells,.agg y.cells] [] (.bool (x.less y)):=by
 simp only [aH.cells];refine bg 30 2 [.tmp 4] mixed Tryz.func211 ?_;simp only [go_sem,seval]
 repeat' with_reducible first|apply And.intro|exact .dq|refine aa.pure (by assumption) ?_|refine .aM (fun h=>?_) fun h=>?_|refine .aK (fun h=>?_) fun h=>?_|refine .aO (fun h=>?_) fun h=>?_|refine .split (fun h=>?_) fun h=>?_|refine .id ?_|refine ah.next (by omega) ?_ ?_|exact trivial|simp only [*,go_sem,seval]
 all_goals (unfold aH.less;simp_all)
theorem pq (x y:aH):Abs.Spec Tryz.prog 152 [] [.agg x.cells,.agg y.cells] [] (.bool (x.same y)):=by
 simp only [aH.cells];refine bg 24 2 [.tmp 4] mixed Tryz.func152 ?_;simp only [go_sem,seval]
 repeat' with_reducible first|apply And.intro|exact .dq|refine aa.pure (by assumption) ?_|refine .aM (fun h=>?_) fun h=>?_|refine .aK (fun h=>?_) fun h=>?_|refine .aO (fun h=>?_) fun h=>?_|refine .split (fun h=>?_) fun h=>?_|refine .id ?_|refine ah.next (by omega) ?_ ?_|exact trivial|simp only [*,go_sem,seval]
 all_goals (simp_all [aH.same])
theorem j4 (l:bq) (a:aH) (hl:l.bs.length < 2 ^ 30):Abs.Spec Tryz.prog 70 [] [.agg l.cells,.agg a.cells] [] (.int .i64 (gB a l.bs)):=by
 simp only [bq.cells,aH.cells];refine bg 27 2 [.tmp 4] mixed Tryz.func70 ?_;simp only [go_sem,seval,aG];refine aC.walk (S:=Unit) l.bs.length [2,3] [48,64] (fun i _=>[(5,.int .i64 i)]) (fun _ _=>[]) (fun i _=>gB a (l.bs.drop i)=gB a l.bs) () rfl ?_ ?_ ?_
 ·simp only [go_sem,seval]<;>simp
 ·intro i _ hi hdi hwi hI;have hm:=aD (c:=bp.cells) l.bs hi;obtain ⟨z,hz⟩:=aL (l.bs[i]);have hS:=pq z.bG a;have hlt:(i:Int) < (l.bs.length:Int):=by omega
  rw [dy hi] at hI;rw [<- hz] at hm hI;simp only [gB] at hI;have e:RS a z=z.bG.same a:=by simp [RS,aH.same,bp.bG]
  rw [e] at hI;simp only [aH.cells,bp.cells,bp.bG] at hS hm;simp only [go_sem,seval,aG,hdi,hm];(with_reducible and_intros)<;>first|exact .dq|omega|skip
  refine aa.pure hS ?_;cases hb:aH.same ⟨z.kind,z.who,z.cur⟩ a
  ·rw [show z.bG.same a=false from hb] at hI;simp only [fZ,if_false] at hI;simp only [go_sem,seval,hwi];refine ah.step () hi hI ?_;simp only [go_sem,seval]
  ·rw [show z.bG.same a=true from hb,if_pos rfl] at hI;simp only [go_sem,seval,aG,hm,<- hI];(with_reducible and_intros)<;>first|exact .dq|omega|skip
 ·intro _ hdx hI;simp only [List.drop_length,gB] at hI;simp only [go_sem,seval,aG,hdx,<- hI]
def qF (ks:List Int) (k:Int):Bool:=ks.any (· == k)
def vu (c:Int) (ks:List Int) (bs:List bp):List Int:=(bs.filter fun b=>qF ks b.kind&&b.cur==c).map bp.sum
theorem Od (c:Int) (ks:List Int) (bs:List bp) {i:Nat} (h:i < bs.length):vu c ks (bs.take (i+1))=if qF ks bs[i].kind&&bs[i].cur==c then vu c ks (bs.take i)++[bs[i].sum] else vu c ks (bs.take i):=by
 simp only [vu];rw [List.take_succ_eq_append_getElem h,List.filter_append,List.map_append];cases hb:(qF ks bs[i].kind&&bs[i].cur==c)<;>simp [List.filter,hb]
theorem Io (c:Int) (ks:List Int) (bs:List bp):(vu c ks bs).length<=bs.length:=by
 simp only [vu,aG];exact List.length_filter_le _ _
theorem QY {c:Int} {ks:List Int} {bs:List bp} (h:∀ b∈bs,b.cE):∀ n∈vu c ks bs,eT n:=by
 intro n hn;simp only [vu,List.mem_map,List.mem_filter] at hn;obtain ⟨b,⟨hb,_⟩,rfl⟩:=hn;exact (h b hb).2.2.2
theorem vX (ks:List Int) (k:Int) {i:Nat} (h:i < ks.length):qF (ks.take (i+1)) k=(qF (ks.take i) k||ks[i]==k):=by
 simp only [qF];rw [List.take_succ_eq_append_getElem h,List.any_append];simp
theorem Dw (l:bq) (c:Int) (ks:List Int) (hl:l.bs.length < 2 ^ 30) (hk:ks.length < 2 ^ 30) (hr:∀ b∈l.bs,b.cE):Abs.Spec Tryz.prog 212 [] [.agg l.cells,.int .i64 c,.sl 1 (ints ks)] [] (.bH [.int .i64 (addN (vu c ks l.bs)),.bool (bP (az (vu c ks l.bs)))]):=by
 have htl:=Io c ks l.bs;have hA:=cu (vu c ks l.bs) (QY hr) (by omega);simp only [bq.cells];refine bg 65 3 [.tmp 6,.tmp 7] mixed Tryz.func212 ?_;simp only [go_sem,seval,aG,ay];refine aC.walk (S:=Unit) l.bs.length [1,2,3] [64] (fun i _=>[(9,.int .i64 i),(8,.ref 976)]) (fun i _=>[(976,.own 1 (ints (vu c ks (l.bs.take i))))]) (fun _ _=>True) () trivial ?_ ?_ ?_
 ·simp only [go_sem,seval]<;>simp [vu,ints]
 ·intro i _ hi hdi hwi _;have hm:=aD (c:=bp.cells) l.bs hi;have hs:=Od c ks l.bs hi;have hlen:=Io c ks (l.bs.take i);have hlt:(l.bs.take i).length=i:=by simp;omega
  have hli:(i:Int) < (l.bs.length:Int):=by omega
  obtain ⟨z,hz⟩:=aL (l.bs[i]);rw [<- hz] at hm hs;simp only [bp.cells] at hm;simp only [go_sem,seval,aG,hdi,ay];refine aC.walk (S:=Unit) ks.length [1,2,3,8,9] [64,976] (fun k _=>[(11,.int .i64 k),(10,.bool (qF (ks.take k) z.kind))]) (fun _ _=>[]) (fun _ _=>True) () trivial ?_ ?_ ?_
  ·simp only [go_sem,seval]<;>simp [qF]
  ·intro k _ hk hdk hwk _;have hst:=vX ks z.kind hk;cases hb:qF (ks.take k) z.kind
   ·rw [hb,Bool.false_or] at hst;simp only [go_sem,seval,aG,ay,hdk,ints_at ks hk,hm,hwk];(with_reducible and_intros)<;>first|exact .dq|omega|skip
    refine ah.step () hk trivial ?_;simp only [go_sem,seval,hst]
   ·rw [hb,Bool.true_or] at hst;simp only [go_sem,seval,aG,ay,hdk,ints_at ks hk,hm,hwk];(with_reducible and_intros)<;>first|exact .dq|omega|skip
    refine ah.step () hk trivial ?_;simp only [go_sem,seval,hst]
  ·intro _ hdk _;cases b1:qF ks z.kind
   ·simp only [b1,Bool.false_and,fZ,if_false] at hs;simp only [go_sem,seval,ay,aG,hdk,List.take_length,b1,hwi];(with_reducible and_intros)<;>first|exact .dq|omega|skip
    refine ah.step () hi trivial ?_;simp only [go_sem,seval,hs]
   cases b2:z.cur==c
   ·simp only [b1,b2,Bool.and_false,fZ,if_false] at hs;simp only [go_sem,seval,ay,aG,hdk,List.take_length,b1,hm,b2,hwi];(with_reducible and_intros)<;>first|exact .dq|omega|skip
    refine ah.step () hi trivial ?_;simp only [go_sem,seval,hs]
   simp only [b1,b2,Bool.and_self,if_true] at hs;simp only [go_sem,seval,ay,aG,hdk,List.take_length,b1,hm,b2,hwi];(with_reducible and_intros)<;>first|exact .dq|omega|skip
   refine ah.step () hi trivial ?_;simp only [go_sem,seval,hs]<;>simp [ints]
 ·intro _ hdx _;simp only [go_sem,seval,ay,aG,hdx,List.take_length];refine aa.gen [] [] true (by simp) ?_;simp only [go_sem,seval];refine aY.intro hA ?_;simp only [go_sem,seval]
theorem Qw {bs:List bp} {i:Nat} (hI:∀ j < i,mq bs j=true) (h0:mq bs i=true):∀ k < i+1,mq bs k=true:=fun k hk=>by
 rcases Nat.lt_or_ge k i with h | h
 ·exact hI k h
 ·obtain rfl:k=i:=by omega
  exact h0
theorem MC {bs:List bp} (h:jX bs=true) (c:Int):vu c [1,2,3,4,5,6] bs=fO c bs/\∀ n∈fO c bs,bP n=true:=by
 have hk:∀ b∈bs,j0 b=true:=fun b hb=>by
  obtain ⟨i,hi,rfl⟩:=List.mem_iff_getElem.1 hb;have:=List.all_eq_true.1 h i (List.mem_range.2 hi);rcases Nat.eq_zero_or_pos i with rfl | hp
  ·rwa [jF hi] at this
  ·obtain ⟨j,rfl⟩:∃ j,i=j+1:=⟨i-1,by omega⟩
   rw [iS hi,bW] at this;exact this.1
 refine ⟨?_,fun n hn=>?_⟩
 ·unfold vu fO;congr 1;refine List.filter_congr fun b hb=>?_
  have:=hk b hb;simp only [j0,bW] at this;have h1:=this.1;unfold aH.right at h1;split at h1
  ·cases h1
  ·rename_i h2;simp only [bp.bG] at h2
   have e:qF [1,2,3,4,5,6] b.kind=true:=by
    simp only [qF,List.any_cons,List.any_nil,Bool.or_eq_true,beq_iff_eq];omega
   rw [e,Bool.true_and]
 ·simp only [fO,List.mem_map,List.mem_filter] at hn;obtain ⟨b,⟨hb,_⟩,rfl⟩:=hn;have:=hk b hb;simp only [j0,bW] at this;exact this.2.1
theorem EW {l:List Int} (h:∀ n∈l,bP n=true):right l=true:=List.all_eq_true.2 h
theorem gW (l:bq) (hl:l.bs.length < 2 ^ 30) (hr:∀ b∈l.bs,b.cE):Abs.Spec Tryz.prog 174 [] [.agg l.cells] [] (.bool l.okB):=by
 have hT:=fun c=>Dw l c [1,2,3,4,5,6] hl (by simp) hr
 simp only [bq.cells,ints,List.map_cons,List.map_nil] at hT |-;refine bg 80 1 [.tmp 2] mixed Tryz.func174 ?_;rcases Int.lt_or_le l.last 0 with h0 | h0
 ·have d0:decide (l.last < 0)=true:=by simpa using h0
  have e:l.okB=false:=by simp [bq.okB];omega
  simp only [go_sem,seval,d0,e]
 have d0:decide (l.last < 0)=false:=by simpa using h0
 simp only [go_sem,seval,d0,aG];refine aC.count l.bs.length [1] [32] (fun i=>[(3,.int .i64 i)]) (fun i=>[]) (fun i=>∀ j < i,mq l.bs j=true) (by simp) ?_ ?_
 ·simp only [go_sem,seval]<;>simp
 intro i hi hI;simp only [go_sem,seval,aG];refine bI.aK (fun h=>?_) (fun h=>?_)
 ·have hi':i < l.bs.length:=by omega
  have hw:IntKind.wrap .i64 ((i:Int)+1)=((i+1:Nat):Int):=by rw [bz (by omega) (by omega)];omega
  have hm:=aD (c:=bp.cells) l.bs hi';have h1:=fI l.bs[i].bG;have h2:=cY l.bs[i].sum;have h3:=th l.bs[i].bG;have e0:=Qw (i:=i) hI;have e1:mq l.bs i=false->l.okB=false:=fun hx=>by simp [bq.okB,wR hi' hx]
  simp only [bp.cells,aH.cells,bp.bG] at hm h1 h3;clear hT;rcases Nat.eq_zero_or_pos i with rfl | hpos
  ·have hk:=jF hi';simp only [j0,bp.bG] at hk;simp only [go_sem,seval,hm,aG]
   repeat' with_reducible first|apply And.intro|exact .dq|refine aa.pure (by assumption) ?_|refine aa.pure (h1) ?_|refine aa.pure (h2) ?_|refine aa.pure (h3) ?_|refine .aM (fun h=>?_) fun h=>?_|refine .aK (fun h=>?_) fun h=>?_|refine .aO (fun h=>?_) fun h=>?_|refine .split (fun h=>?_) fun h=>?_|refine .id ?_|refine ah.next (by omega) ?_ ?_|exact trivial|simp only [*,go_sem,seval]
   all_goals first
    | omega
    | rfl
    | (refine e0 ?_;clear e0 e1;rw [hk];clear hk;simp [bne, *];done)
    | (rw [e1 ?_];clear e0 e1;rw [hk];clear hk;simp [bne, *];done)
  ·obtain ⟨j,rfl⟩:∃ j,i=j+1:=⟨i-1,by omega⟩
   have hj:j < l.bs.length:=by omega
   have hw1:IntKind.wrap .i64 (((j+1:Nat):Int)-1)=(j:Int):=by rw [bz (by omega) (by omega)];omega
   have hk:=iS hi';simp only [j0,bp.bG] at hk;have hmj:=aD (c:=bp.cells) l.bs hj;have h4:=DO l.bs[j].bG l.bs[j+1].bG;simp only [bp.cells,aH.cells,bp.bG] at hmj h4;simp only [go_sem,seval,hm,aG]
   repeat' with_reducible first|apply And.intro|exact .dq|refine aa.pure (by assumption) ?_|refine aa.pure (h1) ?_|refine aa.pure (h2) ?_|refine aa.pure (h3) ?_|refine aa.pure (h4) ?_|refine .aM (fun h=>?_) fun h=>?_|refine .aK (fun h=>?_) fun h=>?_|refine .aO (fun h=>?_) fun h=>?_|refine .split (fun h=>?_) fun h=>?_|refine .id ?_|refine ah.next (by omega) ?_ ?_|exact trivial|simp only [*,go_sem,seval,hmj,aG]
   all_goals first
    | omega
    | rfl
    | (refine e0 ?_;clear e0 e1;rw [hk];clear hk;simp [bne, *];done)
    | (rw [e1 ?_];clear e0 e1;rw [hk];clear hk;simp [bne, *];done)
 have hs:=pN (fun j (hj:j < l.bs.length)=>hI j (by omega))
 have hbal:∀ c:Int,jH l.bs c=(bP (az (fO c l.bs))&&addN (fO c l.bs)==0):=fun c=>by
  have:=(MC hs c).2;simp only [jH,rA,rz,addN,EW this,if_true,Bool.true_and];cases bP (az (fO c l.bs))<;>simp
 simp only [go_sem,seval];refine aC.walk (S:=Unit) 3 [1] [32] (fun i _=>[(5,.int .i64 i)]) (fun i _=>[]) (fun i _=>∀ c < i,jH l.bs (c:Nat)=true) () (by simp) ?_ ?_ ?_
 ·simp only [go_sem,seval]<;>simp
 ·intro c _ hc hdc hwc hC;have hdc:decide ((c:Int) < 3)=true:=hdc;have hTc:=hT c;rw [(MC hs c).1] at hTc;have hb:=hbal c
  have hbad:jH l.bs c=false->l.okB=false:=fun hx=>by
   obtain rfl | rfl | rfl:c=0\/c=1\/c=2:=by omega
   ·have:jH l.bs 0=false:=hx;simp [bq.okB,this]
   ·have:jH l.bs 1=false:=hx;simp [bq.okB,this]
   ·have:jH l.bs 2=false:=hx;simp [bq.okB,this]
  simp only [go_sem,seval,hdc];refine aa.gen [] [] true (by simp) ?_;simp only [go_sem,seval];refine aY.intro hTc ?_;cases b1:bP (az (fO c l.bs))
  ·simp only [go_sem,seval,b1,hbad (by rw [hb,b1];rfl)]
  cases b2:addN (fO c l.bs)==0
  ·simp only [go_sem,seval,b1,bne,b2,hbad (by rw [hb,b1,b2];rfl)]
  simp only [go_sem,seval,b1,bne,b2,hwc];refine ah.step () hc ?_ ?_
  ·intro k hk;rcases Nat.lt_or_ge k c with h | h
   ·exact hC k h
   ·obtain rfl:k=c:=by omega
    rw [hb,b1,b2];rfl
  ·simp only [go_sem,seval]
 ·intro _ hdc hC;have hdc:decide ((3:Int) < 3)=false:=hdc;have b0:jH l.bs 0=true:=hC 0 (by omega);have b1:jH l.bs 1=true:=hC 1 (by omega);have b2:jH l.bs 2=true:=hC 2 (by omega);have e:l.okB=true:=by simp [bq.okB,hs,b0,b1,b2,h0]
  simp only [go_sem,seval,hdc,e]
theorem oQ (w n:Int):Abs.Spec Tryz.prog 71 [] [.agg [.int .i64 w,.int .i64 n]] [] (.bool (ot w n)):=by
 have h1:=fC w;have h2:=bn n 1 8;refine bg 11 1 [.tmp 2] mixed Tryz.func71 ?_;simp only [go_sem,seval]
 repeat' with_reducible first|apply And.intro|exact .dq|refine aa.pure (by assumption) ?_|refine aa.pure (h1) ?_|refine aa.pure (h2) ?_|refine .aM (fun h=>?_) fun h=>?_|refine .aK (fun h=>?_) fun h=>?_|refine .aO (fun h=>?_) fun h=>?_|refine .split (fun h=>?_) fun h=>?_|refine .id ?_|refine ah.next (by omega) ?_ ?_|exact trivial|simp only [*,go_sem,seval]
 all_goals (simp_all [ot])
theorem zz (a b c d:Int):Abs.Spec Tryz.prog 217 [] [.agg [.int .i64 a,.int .i64 b],.agg [.int .i64 c,.int .i64 d]] [] (.bool (Ba a b c d)):=by
 refine bg 24 2 [.tmp 4] mixed Tryz.func217 ?_;simp only [go_sem,seval]
 repeat' with_reducible first|apply And.intro|exact .dq|refine aa.pure (by assumption) ?_|refine .aM (fun h=>?_) fun h=>?_|refine .aK (fun h=>?_) fun h=>?_|refine .aO (fun h=>?_) fun h=>?_|refine .split (fun h=>?_) fun h=>?_|refine .id ?_|refine ah.next (by omega) ?_ ?_|exact trivial|simp only [*,go_sem,seval]
 all_goals (simp only [Ba];simp_all)
theorem pP (t:aI):Abs.Spec Tryz.prog 179 [] [.agg t.cells] [] (.bool (within t.aV 1 1048576&&within t.aR 1 1073741824)):=by
 have h1:=bn t.aV 1 1048576;have h2:=bn t.aR 1 1073741824;simp only [aI.cells];refine bg 11 1 [.tmp 2] mixed Tryz.func179 ?_;simp only [go_sem,seval]
 repeat' with_reducible first|apply And.intro|exact .dq|refine aa.pure (by assumption) ?_|refine aa.pure (h1) ?_|refine aa.pure (h2) ?_|refine .aM (fun h=>?_) fun h=>?_|refine .aK (fun h=>?_) fun h=>?_|refine .aO (fun h=>?_) fun h=>?_|refine .split (fun h=>?_) fun h=>?_|refine .id ?_|refine ah.next (by omega) ?_ ?_|exact trivial|simp only [*,go_sem,seval]
 all_goals (simp_all)
theorem rW (t:aI):Abs.Spec Tryz.prog 181 [] [.agg t.cells] [] (.bool t.okB):=by
 have h0:=pP t;have h1:=fC t.fX;have h2:=fC t.dU;have h3:=bn t.inst 1 8;simp only [aI.cells] at h0 |-;refine bg 27 1 [.tmp 2] mixed Tryz.func181 ?_;simp only [go_sem,seval]
 repeat' with_reducible first|apply And.intro|exact .dq|refine aa.pure (by assumption) ?_|refine aa.pure (h0) ?_|refine aa.pure (h1) ?_|refine aa.pure (h2) ?_|refine aa.pure (h3) ?_|refine .aM (fun h=>?_) fun h=>?_|refine .aK (fun h=>?_) fun h=>?_|refine .aO (fun h=>?_) fun h=>?_|refine .split (fun h=>?_) fun h=>?_|refine .id ?_|refine ah.next (by omega) ?_ ?_|exact trivial|simp only [*,go_sem,seval]
 all_goals first
  | (simp_all [aI.okB,ot,bne];done)
  | (rw [Bool.eq_iff_iff];simp_all [aI.okB,ot,bne])
theorem K0 (a b:aI):ef a b = !decide (b.no<=a.no):=by
 rw [Bool.eq_iff_iff];simp [ef]
theorem Fy {n:Int} {l:List aA} (h:∀ p∈l,p.cE):∀ q∈bR n l,eT q:=by
 intro q hq;simp only [bR,List.mem_map,List.mem_filter] at hq;obtain ⟨p,⟨hp,_⟩,rfl⟩:=hq;exact (h p hp).2.2.1
theorem Lu {n:Int} {l:List aA} (h:mg aA.okB fP l=true):kE n l=(bP (az (bR n l))&&addN (bR n l)==0):=by
 have hr:right (bR n l)=true:=List.all_eq_true.2 fun q hq=>by
  simp only [bR,List.mem_map,List.mem_filter] at hq;obtain ⟨p,⟨hp,_⟩,rfl⟩:=hq;obtain ⟨i,hi,rfl⟩:=List.mem_iff_getElem.1 hp;have:=G2 h hi;simp only [aA.okB,within,bW,decide_eq_true_eq] at this;refine cm.2 ?_;omega
 simp only [kE,rA,rz,addN,hr,if_true,Bool.true_and];cases bP (az (bR n l))<;>simp
theorem gH (b:aF) (hl:b.small) (hr:∀ p∈b.qs,p.cE):Abs.Spec Tryz.prog 180 [] [.agg b.cells] [] (.bool b.okB):=by
 obtain ⟨hl1,hl2⟩:=hl;have hA:=fun n=>cu (bR n b.qs) (Fy hr) (by have:=nD n b.qs;omega)
 have hN:=bn b.next 0 1099511627776
 have hNe:within b.next 0 1099511627776=(!decide (b.next < 0)&&!decide (1099511627776 < b.next)):=by rw [Bool.eq_iff_iff];simp [within]
 simp only [aF.cells];refine bg 156 1 [.tmp 2] mixed Tryz.func180 ?_;simp only [go_sem,seval];refine aa.pure hN ?_;cases b1:within b.next 0 1099511627776
 ·rw [hNe] at b1;have e:b.okB=false:=by simp only [aF.okB,b1,Bool.and_false]
  simp only [go_sem,seval,e]
 cases b2:decide (128 < (b.ts.length:Int))
 case true =>
  have e:b.okB=false:=by simp [aF.okB,b2]
  simp only [go_sem,seval,aG,b2,e]
 have e:b.okB=(mg aA.okB fP b.qs&&(mg (eK b.next) ef b.ts&&lq b.qs)):=by
  rw [hNe] at b1;simp only [aF.okB,b1,b2,Bool.not_false,Bool.and_true]
 rw [e];clear e hN hNe;simp only [go_sem,seval,aG,b2];refine aC.count b.qs.length [1] [32] (fun i=>[(3,.int .i64 i)]) (fun i=>[]) (fun i=>∀ j < i,kj aA.okB fP b.qs j=true) (by simp) ?_ ?_
 ·simp only [go_sem,seval]<;>simp
 intro i hi hI;simp only [go_sem,seval,aG];refine bI.aK (fun h=>?_) (fun h=>?_)
 ·have hi':i < b.qs.length:=by omega
  have hw:IntKind.wrap .i64 ((i:Int)+1)=((i+1:Nat):Int):=by rw [bz (by omega) (by omega)];omega
  have hm:=aD (c:=aA.cells) b.qs hi';have h1:=oQ b.qs[i].who b.qs[i].inst;have h2:=cY b.qs[i].cost;have h3:=bn b.qs[i].aV (-1099511627776) 1099511627776;have e0:=ni (i:=i) hI;have e1:kj aA.okB fP b.qs i=false->(mg aA.okB fP b.qs&&(mg (eK b.next) ef b.ts&&lq b.qs))=false:=fun hx=>by simp [qU hi' hx]
  simp only [aA.cells] at hm;clear hA;rcases Nat.eq_zero_or_pos i with rfl | hpos
  ·have hk:=gn (ok:=aA.okB) (lt:=fP) hi';simp only [aA.okB] at hk;simp only [go_sem,seval,hm,aG]
   repeat' with_reducible first|apply And.intro|exact .dq|refine aa.pure (by assumption) ?_|refine aa.pure (h1) ?_|refine aa.pure (h2) ?_|refine aa.pure (h3) ?_|refine .aM (fun h=>?_) fun h=>?_|refine .aK (fun h=>?_) fun h=>?_|refine .aO (fun h=>?_) fun h=>?_|refine .split (fun h=>?_) fun h=>?_|refine .id ?_|refine ah.next (by omega) ?_ ?_|exact trivial|simp only [*,go_sem,seval]
   all_goals first
    | omega
    | rfl
    | (refine e0 ?_;clear e0 e1;rw [hk];clear hk;simp_all;done)
    | (rw [e1 ?_];clear e0 e1;rw [hk];clear hk;simp_all;done)
  ·obtain ⟨j,rfl⟩:∃ j,i=j+1:=⟨i-1,by omega⟩
   have hj:j < b.qs.length:=by omega
   have hw1:IntKind.wrap .i64 (((j+1:Nat):Int)-1)=(j:Int):=by rw [bz (by omega) (by omega)];omega
   have hk:=fR (ok:=aA.okB) (lt:=fP) hi';simp only [aA.okB,fP] at hk;have hmj:=aD (c:=aA.cells) b.qs hj;have h4:=zz b.qs[j].who b.qs[j].inst b.qs[j+1].who b.qs[j+1].inst;simp only [aA.cells] at hmj;simp only [go_sem,seval,hm,aG]
   repeat' with_reducible first|apply And.intro|exact .dq|refine aa.pure (by assumption) ?_|refine aa.pure (h1) ?_|refine aa.pure (h2) ?_|refine aa.pure (h3) ?_|refine aa.pure (h4) ?_|refine .aM (fun h=>?_) fun h=>?_|refine .aK (fun h=>?_) fun h=>?_|refine .aO (fun h=>?_) fun h=>?_|refine .split (fun h=>?_) fun h=>?_|refine .id ?_|refine ah.next (by omega) ?_ ?_|exact trivial|simp only [*,go_sem,seval,hmj,aG]
   all_goals first
    | omega
    | rfl
    | (refine e0 ?_;clear e0 e1;rw [hk];clear hk;simp_all;done)
    | (rw [e1 ?_];clear e0 e1;rw [hk];clear hk;simp_all;done)
 have hP:=l7 (fun j (hj:j < b.qs.length)=>hI j (by omega));have hl1r:=fun n:Int=>Lu (n:=n) hP
 rw [hP,Bool.true_and];clear hI;simp only [go_sem,seval];refine aC.walk (S:=Unit) 8 [1] [32] (fun i _=>[(5,.int .i64 ((i:Int)+1))]) (fun i _=>[]) (fun i _=>∀ j < i,kE ((j:Int)+1) b.qs=true) () (by simp) ?_ ?_ ?_
 ·simp only [go_sem,seval]<;>simp
 ·intro c _ hc _ _ hC;obtain ⟨n,hn⟩:=aL ((c:Int)+1);have hd:decide (n<=8)=true:=decide_eq_true (by omega);have hw:IntKind.wrap .i64 (n+1)=((c+1:Nat):Int)+1:=by rw [bz (by omega) (by omega)];omega
  rw [<- hn];simp only [go_sem,seval,hd,aG];refine aC.walk (S:=Unit) b.qs.length [1,5] [32] (fun i _=>[(7,.int .i64 i),(6,.ref 1696)]) (fun i _=>[(1696,.own 1 (ints (bR n (b.qs.take i))))]) (fun _ _=>True) () trivial ?_ ?_ ?_
  ·simp only [go_sem,seval]<;>simp [bR,ints]
  ·intro i _ hi hdi hwi _;have hm:=aD (c:=aA.cells) b.qs hi;have hs:=u5 n b.qs hi;have hlen:=nD n (b.qs.take i);have hlt:(b.qs.take i).length=i:=by simp;omega
   have hli:(i:Int) < (b.qs.length:Int):=by omega
   simp only [aA.cells] at hm;simp only [go_sem,seval,hdi,hm,aG];(with_reducible and_intros)<;>first|exact .dq|omega|skip
   cases hb:b.qs[i].inst==n
   ·simp only [hb,fZ,if_false] at hs;simp only [go_sem,seval,hwi];refine ah.step () hi trivial ?_;simp only [go_sem,seval,hs]
   ·simp only [hb,if_true] at hs;simp only [go_sem,seval,hwi,ay,aG,hm];(with_reducible and_intros)<;>first|exact .dq|omega|skip
    refine ah.step () hi trivial ?_;simp only [go_sem,seval,hs]<;>simp [ints]
  ·intro _ hdx _
   have hbad:kE n b.qs=false->lq b.qs=false:=fun hx=>by
    cases hh:lq b.qs
    ·rfl
    ·have:=List.all_eq_true.1 hh c (List.mem_range.2 hc);rw [<- hn,hx] at this;cases this
   have hr1:=hl1r n;simp only [go_sem,seval,hdx,aG,List.take_length];refine aa.gen [] [] true (by simp) ?_;simp only [go_sem,seval];refine aY.intro (hA n) ?_;cases b3:bP (az (bR n b.qs))
   ·have:=hbad (by rw [hr1,b3];rfl);simp only [go_sem,seval,b3,this,Bool.and_false]
   cases b4:addN (bR n b.qs)==0
   ·have:=hbad (by rw [hr1,b3,b4];rfl);simp only [go_sem,seval,bne,b3,b4,this,Bool.and_false]
   simp only [go_sem,seval,bne,b3,b4,hw];refine ah.step () hc ?_ ?_
   ·intro j hj;rcases Nat.lt_or_ge j c with h | h
    ·exact hC j h
    ·obtain rfl:j=c:=by omega
     rw [<- hn,hr1,b3,b4];rfl
   ·simp only [go_sem,seval]
 ·intro _ _ hC;have hlv:lq b.qs=true:=List.all_eq_true.2 fun j hj=>hC j (List.mem_range.1 hj)
  rw [hlv,Bool.and_true];clear hC hlv hl1r hA;simp only [go_sem,seval];refine aC.count b.ts.length [1] [32] (fun i=>[(10,.int .i64 i)]) (fun i=>[]) (fun i=>∀ j < i,kj (eK b.next) ef b.ts j=true) (by simp) ?_ ?_
  ·simp only [go_sem,seval]<;>simp
  intro i hi hI;simp only [go_sem,seval,aG];refine bI.aK (fun h=>?_) (fun h=>?_)
  ·have hi':i < b.ts.length:=by omega
   have hw:IntKind.wrap .i64 ((i:Int)+1)=((i+1:Nat):Int):=by rw [bz (by omega) (by omega)];omega
   have hm:=aD (c:=aI.cells) b.ts hi';have h1:=rW b.ts[i];have h2:=bn b.ts[i].no 1 b.next
   have e0:=ni (i:=i) hI;have e1:kj (eK b.next) ef b.ts i=false->mg (eK b.next) ef b.ts=false:=fun hx=>qU hi' hx
   have hte:eK b.next b.ts[i]=(b.ts[i].okB&&within b.ts[i].no 1 b.next):=by rw [Bool.eq_iff_iff];simp [eK,within]
   simp only [aI.cells] at hm h1;rcases Nat.eq_zero_or_pos i with rfl | hpos
   ·have hk:=gn (ok:=eK b.next) (lt:=ef) hi';rw [hte] at hk;clear hte;simp only [go_sem,seval,hm,aG]
    repeat' with_reducible first|apply And.intro|exact .dq|refine aa.pure (by assumption) ?_|refine aa.pure (h1) ?_|refine aa.pure (h2) ?_|refine .aM (fun h=>?_) fun h=>?_|refine .aK (fun h=>?_) fun h=>?_|refine .aO (fun h=>?_) fun h=>?_|refine .split (fun h=>?_) fun h=>?_|refine .id ?_|refine ah.next (by omega) ?_ ?_|exact trivial|simp only [*,go_sem,seval]
    all_goals first
     | omega
     | rfl
     | (refine e0 ?_;clear e0 e1;rw [hk];clear hk;simp_all;done)
     | (rw [e1 ?_];clear e0 e1;rw [hk];clear hk;simp_all;done)
   ·obtain ⟨j,rfl⟩:∃ j,i=j+1:=⟨i-1,by omega⟩
    have hj:j < b.ts.length:=by omega
    have hw1:IntKind.wrap .i64 (((j+1:Nat):Int)-1)=(j:Int):=by rw [bz (by omega) (by omega)];omega
    have hk:=fR (ok:=eK b.next) (lt:=ef) hi';rw [hte,K0] at hk;clear hte;have hmj:=aD (c:=aI.cells) b.ts hj;simp only [aI.cells] at hmj;simp only [go_sem,seval,hm,aG]
    repeat' with_reducible first|apply And.intro|exact .dq|refine aa.pure (by assumption) ?_|refine aa.pure (h1) ?_|refine aa.pure (h2) ?_|refine .aM (fun h=>?_) fun h=>?_|refine .aK (fun h=>?_) fun h=>?_|refine .aO (fun h=>?_) fun h=>?_|refine .split (fun h=>?_) fun h=>?_|refine .id ?_|refine ah.next (by omega) ?_ ?_|exact trivial|simp only [*,go_sem,seval,hmj,aG]
    all_goals first
     | omega
     | rfl
     | (refine e0 ?_;clear e0 e1;rw [hk];clear hk;simp_all;done)
     | (refine e0 ?_;clear e0 e1;rw [hk];clear hk;simp_all;omega)
     | (rw [e1 ?_];clear e0 e1;rw [hk];clear hk;simp_all;done)
     | (rw [e1 ?_];clear e0 e1;rw [hk];clear hk;simp_all;omega)
  ·have hT:=l7 (fun j (hj:j < b.ts.length)=>hI j (by omega));simp only [go_sem,seval,hT]
theorem kn (r:aq) (n:Int) (hl:r.small):Abs.Spec Tryz.prog 118 [] [.agg r.cells,.int .i64 n] [] (.bH [.agg (eR av.a n ⟨0,0,0,0⟩ r.xs).cells,.bool (decide (0<=fU av.a n r.xs))]):=by
 obtain ⟨l1,l2,l3⟩:=hl;simp only [aq.cells];refine bg 28 2 [.cell 4 85,.tmp 5] mixed Tryz.func118 ?_;simp only [go_sem,seval,aG];refine aC.walk (S:=Unit) r.xs.length [1,2,4] [48,80] (fun i _=>[(6,.int .i64 i)]) (fun i _=>[]) (fun i _=>∀ j (hj:j < r.xs.length),j < i->r.xs[j].a≠n) () (by intros;omega) ?_ ?_ ?_
 ·simp only [go_sem,seval]<;>simp
 ·intro i _ hi hdi hw hI;have hm:=aD (c:=av.cells) r.xs hi;have hlt:(i:Int) < (r.xs.length:Int):=by omega
  simp only [av.cells] at hm |-;simp only [go_sem,seval,aG,hdi,hm];(with_reducible and_intros)<;>first|exact .dq|omega|skip
  cases hb:r.xs[i].a==n
  ·have hb2:r.xs[i].a≠n:=by simpa using hb
   simp only [go_sem,seval,hw];refine ah.step () hi ?_ ?_
   ·intro j hj hji;rcases Nat.lt_or_ge j i with h | h
    ·exact hI j hj h
    ·obtain rfl:j=i:=by omega
     exact hb2
   ·simp only [go_sem,seval]
  ·have hb2:r.xs[i].a=n:=by simpa using hb
   obtain ⟨g1,g2⟩:=gX (z:=(⟨0,0,0,0⟩:av)) hi hI hb2;have g3:decide (0<=(i:Int))=true:=decide_eq_true (by omega);rw [g1,g2,g3];simp only [go_sem,seval,hm,aG];(with_reducible and_intros)<;>first|exact .dq|omega|skip
 ·intro _ hdx hI;obtain ⟨g1,g2⟩:=fS (z:=(⟨0,0,0,0⟩:av)) (fun j hj=>hI j hj hj);rw [g1,g2];simp only [go_sem,seval,aG,hdx,av.cells]
theorem MB {a:aH} {bs:List bp} (h:∀ b∈bs,b.cE):eT (gB a bs):=by
 induction bs with
 | nil=>exact ⟨by simp [gB],by simp [gB]⟩
 | cons b r ih =>
  simp only [gB];split
  ·exact (h b (by simp)).2.2.2
  ·exact ih fun b hb=>h b (by simp [hb])
theorem aay (a:av) (n:Int):bP (a.V n)=true:=by
 simp only [av.V];split
 ·unfold Si;split
  ·decide
  ·split
   ·assumption
   ·decide
 ·decide
theorem QB (r:aq) (w c:Int) (ps:List eO):∀ n∈iJ r w c ps,bP n=true:=by
 intro n hn;simp only [iJ,List.mem_map] at hn;obtain ⟨x,_,rfl⟩:=hn;exact aay _ _
theorem xL {l:bq} (h:l.okB=true) (a:aH):bP (gB a l.bs)=true:=by
 have h1:=(VH h).2;clear h;generalize l.bs=bs at h1
 induction bs with
 | nil=>rfl
 | cons b r ih =>
  simp only [gB];split
  ·exact h1 b (by simp)
  ·exact ih fun z hz=>h1 z (by simp [hz])
theorem n5 {n:Int} (h:bP n=true):eT n:=by have:=cm.1 h;exact ⟨by omega,by omega⟩
theorem D0 (l:bq) (r:aq) (ps:List eO) (w c:Int) (hl:l.bs.length < 2 ^ 29) (hr:r.small) (hp:ps.length < 2 ^ 29) (hb:∀ b∈l.bs,b.cE) :
  Abs.Spec Tryz.prog 194 [] [.agg l.cells,.agg r.cells,.sl 3 (pl ps),.int .i64 w,.int .i64 c] [] (.bH [.int .i64 (HI l r ps w c),.int .i64 (FU l r ps w c)]):=by
 have h1:=gW l (by omega) hb;have h2:=dJ r hr;have h3:=mJ ps (by omega);have h4:=j4 l ⟨2,w,c⟩ (by omega);have h5:=fun n=>kn r n hr
 simp only [bq.cells,aH.cells] at h1 h4 |-;simp only [aq.cells] at h2 h5 |-;refine bg 97 5 [.tmp 10,.tmp 11] mixed Tryz.func194 ?_;simp only [go_sem,seval];refine aa.pure h1 ?_;cases b1:l.okB
 ·have e:vf l r ps=14:=by simp [vf,b1]
  have e1:FU l r ps w c=14:=by simp [FU,e]
  have e2:HI l r ps w c=0:=by simp [HI,e]
  simp only [go_sem,seval,e1,e2]
 simp only [go_sem,seval];refine aa.pure h2 ?_;cases b2:r.okB
 ·have e:vf l r ps=14:=by simp [vf,b2]
  have e1:FU l r ps w c=14:=by simp [FU,e]
  have e2:HI l r ps w c=0:=by simp [HI,e]
  simp only [go_sem,seval,e1,e2]
 simp only [go_sem,seval];refine aa.pure h3 ?_;cases b3:gh ps
 ·have e:vf l r ps=14:=by simp [vf,b3]
  have e1:FU l r ps w c=14:=by simp [FU,e]
  have e2:HI l r ps w c=0:=by simp [HI,e]
  simp only [go_sem,seval,e1,e2]
 have e:vf l r ps=0:=by simp [vf,b1,b2,b3]
 have e1:FU l r ps w c=if ji r w c ps != 0 then ji r w c ps else rA (gB ⟨2,w,c⟩ l.bs :: iJ r w c ps):=by simp [FU,e]
 have e2:HI l r ps w c=if ji r w c ps != 0 then 0 else rz (gB ⟨2,w,c⟩ l.bs :: iJ r w c ps):=by simp [HI,e]
 rw [e1,e2];clear e1 e2 e;simp only [go_sem,seval];refine aa.pure h4 ?_;have hoin:=xL b1 ⟨2,w,c⟩;obtain ⟨o,ho⟩:=aL (gB ⟨2,w,c⟩ l.bs);rw [<- ho] at hoin |-;simp only [go_sem,seval];refine aC.walk (S:=Unit) ps.length [2,3,4,6] [112] (fun i _=>[(13,.int .i64 i),(12,.ref 1424)]) (fun i _=>[(1424,.own 1 (ints (o :: iJ r w c (ps.take i))))]) (fun i _=>ji r w c (ps.drop i)=ji r w c ps) () rfl ?_ ?_ ?_
 ·simp only [go_sem,seval]<;>simp [iJ,ints]
 ·intro i _ hi' hdi hw hI;have hstep:=Lp r w c ps hi';have hA:=h5 ps[i].bE;have hvl:=FK r w c (ps.take i);have htl:(ps.take i).length=i:=by simp;omega
  have hli:(i:Int) < (ps.length:Int):=by omega
  rw [Ma hi'] at hI;simp only [ji] at hI;obtain ⟨a,ha⟩:=aL (C0 r ps[i]);have ha':eR av.a ps[i].bE ⟨0,0,0,0⟩ r.xs=a:=ha.symm;rw [ha'] at hA;simp only [LP,<- ha] at hI hstep;have hv:=uM a ps[i].units;simp only [av.cells] at hA hv;clear h1 h2 h3 h4 h5;simp only [go_sem,seval,hdi,mQ ps hi'];(with_reducible and_intros)<;>first|exact .dq|omega|skip
  refine aa.pure hA ?_;cases p1:decide (0<=fU av.a ps[i].bE r.xs)
  ·simp only [p1,Bool.false_and,fZ,if_false] at hI hstep;simp only [go_sem,seval,p1,hw];(with_reducible and_intros)<;>first|exact .dq|omega|skip
   refine ah.step () hi' hI ?_;simp only [go_sem,seval,hstep]
  cases p2:ps[i].who==w
  ·simp only [p1,p2,Bool.false_and,Bool.true_and,fZ,if_false] at hI hstep;simp only [go_sem,seval,p1,bne,p2,hw,mQ ps hi'];(with_reducible and_intros)<;>first|exact .dq|omega|skip
   refine ah.step () hi' hI ?_;simp only [go_sem,seval,hstep]
  cases p3:a.b==c
  ·simp only [p1,p2,p3,Bool.false_and,Bool.and_false,Bool.true_and,fZ,if_false] at hI hstep;simp only [go_sem,seval,p1,bne,p2,p3,hw,mQ ps hi'];(with_reducible and_intros)<;>first|exact .dq|omega|skip
   refine ah.step () hi' hI ?_;simp only [go_sem,seval,hstep]
  simp only [p1,p2,p3,Bool.true_and,Bool.and_self,if_true] at hI hstep;simp only [go_sem,seval,p1,bne,p2,p3,mQ ps hi'];(with_reducible and_intros)<;>first|exact .dq|omega|skip
  refine aa.pure hv ?_;cases p4:a.E ps[i].units==0
  ·have p4':(a.E ps[i].units != 0)=true:=by simp [bne,p4]
   simp only [p4',if_true] at hI;have hF:ji r w c ps=a.E ps[i].units:=hI.symm;simp only [go_sem,seval,bne,p4,hF,Bool.not_false,if_true]
  ·have p4':(a.E ps[i].units != 0)=false:=by simp [bne,p4]
   simp only [p4',fZ,if_false] at hI;simp only [go_sem,seval,bne,p4,hw,ay];(with_reducible and_intros)<;>first|exact .dq|omega|skip
   refine ah.step () hi' hI ?_;simp only [go_sem,seval,hstep]<;>simp [ints]
 ·intro _ hdx hI;simp only [List.drop_length,ji] at hI;have hlen:=FK r w c ps
  have hall:∀ n∈o :: iJ r w c ps,bP n=true:=fun n hn=>by
   rcases List.mem_cons.1 hn with rfl | hn
   ·exact hoin
   ·exact QB r w c ps n hn
  have hs:=cu (o :: iJ r w c ps) (fun n hn=>n5 (hall n hn)) (by simp;omega);have hright:=EW hall;rw [<- hI];simp only [rA,rz,hright,if_true,Bool.true_and];simp only [go_sem,seval,hdx,List.take_length];refine aa.gen [] [] true (by simp) ?_;simp only [go_sem,seval];refine aY.intro hs ?_;cases hin:bP (az (o :: iJ r w c ps))
  ·simp only [go_sem,seval,hin]<;>simp
  ·simp only [go_sem,seval,hin,addN]<;>simp
theorem uY (s:af) (w c:Int) (hs:s.fit) (hr:s.cE) (hl:s.aU.bs.length < 2 ^ 29) (hp:s.ps.length < 2 ^ 29):Abs.Spec Tryz.prog 140 [] [.agg s.cells,.int .i64 w,.int .i64 c] [] (.bH [.int .i64 (Qc s w c),.int .i64 (TU s w c)]):=by
 obtain ⟨hro,hb,_,_⟩:=hs;have h1:=D0 s.aU s.aj s.ps w c hl hro hp hr.bs;have h2:=gH s.book hb hr.qs;have h3:=C1 s.aj w c s.book.qs hro hb.2;simp only [bq.cells,aq.cells,aF.cells] at h1 h2 h3;simp only [af.cells,Qc,TU];refine bg 63 3 [.tmp 6,.tmp 7] mixed Tryz.func140 ?_;simp only [go_sem,seval];refine aa.pure h1 ?_
 by_cases e1:FU s.aU s.aj s.ps w c=0
 case neg =>
  have b1:(FU s.aU s.aj s.ps w c==0)=false:=by simpa using e1
  simp only [go_sem,seval,bne,b1,if_neg e1]
 have hin1:=(abH e1).2.2.2;have hin3:=Lw s.aj w c s.book.qs;have b1:(FU s.aU s.aj s.ps w c==0)=true:=by simpa using e1
 simp only [go_sem,seval,bne,b1,if_pos e1];refine aa.pure h2 ?_;cases b2:s.book.okB
 ·simp only [go_sem,seval,b2]
 simp only [go_sem,seval,b2];refine aa.pure h3 ?_
 by_cases e3:B6 s.aj w c s.book.qs=0
 case neg =>
  have b3:(B6 s.aj w c s.book.qs==0)=false:=by simpa using e3
  simp only [go_sem,seval,bne,b3,if_neg e3]
 have b3:(B6 s.aj w c s.book.qs==0)=true:=by simpa using e3
 simp only [if_pos e3];obtain ⟨M,hM⟩:=aL (zJ s.aj w c s.book.qs);obtain ⟨C,hC⟩:=aL (HI s.aU s.aj s.ps w c);rw [<- hC] at hin1 |-;rw [<- hM] at hin3 |-;have i1:=cm.1 hin1;have i3:=cm.1 hin3;have hw:IntKind.wrap .i64 (0-C) = -C:=by rw [bz (by omega) (by omega)];omega
 have hA:=cu [M,-C] (by intro n hn;simp only [List.mem_cons,List.not_mem_nil,or_false] at hn;rcases hn with rfl | rfl<;>exact ⟨by omega,by omega⟩) (by simp);have hsum:az [M,-C]=M-C:=by simp [az];omega
 simp only [addN,hsum,ints,List.map_cons,List.map_nil] at hA;simp only [go_sem,seval,bne,b3,hw];refine aa.gen [] [] true (by simp) ?_;simp only [go_sem,seval];refine aY.intro hA ?_;simp only [TR,UZ,hin1,hin3,Bool.true_and,Bool.and_self,if_true];cases hd:bP (M-C)
 ·by_cases e4:M<=C
  ·have d4:decide (C < M)=false:=decide_eq_false (by omega);simp only [go_sem,seval,hd,d4,if_pos e4,fZ,if_false]<;>simp
  ·have d4:decide (C < M)=true:=decide_eq_true (by omega);simp only [go_sem,seval,hd,d4,if_neg e4,fZ,if_false]
 ·by_cases e4:M<=C
  ·have hmax:max (M-C) 0=0:=by omega
   simp only [go_sem,seval,hd,hmax,if_pos e4]
  ·have hmax:max (M-C) 0=M-C:=by omega
   simp only [go_sem,seval,hd,hmax,if_neg e4]
deriving instance DecidableEq for ak,au,av,bp,aH
theorem gZ {A:Type} {xs ys:List A} (hl:xs.length=ys.length) (h:∀ j (h1:j < xs.length) (h2:j < ys.length),j < xs.length->xs[j]=ys[j]):xs=ys:=List.ext_getElem hl fun j h1 h2=>h j h1 h2 h1
theorem jy {A:Type} {xs ys:List A} {i:Nat} (hI:∀ j (h1:j < xs.length) (h2:j < ys.length),j < i->xs[j]=ys[j]) (h1:i < xs.length) (h2:i < ys.length) (he:xs[i]=ys[i]):∀ j (h1:j < xs.length) (h2:j < ys.length),j < i+1->xs[j]=ys[j]:=by
 intro j a b hj;rcases Nat.lt_or_ge j i with h | h
 ·exact hI j a b h
 ·obtain rfl:j=i:=by omega
  exact he
def dO.ch (x:dO):Nat->Int
 | 0=>x.c0 | 1=>x.c1 | 2=>x.c2 | 3=>x.c3 | _=>x.c4
end Go.Proofs.YtnkobepdbkmedaaGreat
