/- The reference's margin, and what follows. No theorem of a claim. -/
import Derived.Test.YtnkobepdbkmedaaGreatDoorKC
import Derived.Test.YtnkobepdbkmedaaGreatDoorKA
set_option linter.unusedSimpArgs false
set_option linter.unusedVariables false
set_option maxHeartbeats 4000000
set_option maxRecDepth 16000
namespace Go.Proofs.YtnkobepdbkmedaaGreatDoor
open Go.Abs
theorem Ws (p:aB):within p.bg (-1099511627776) 1099511627776=oA p:=by
 rw [Bool.eq_iff_iff];simp [within,oA]
theorem TW (j:Nat) (p:ff):-p.q*(p.i.mult*p.i.sh j)=kn j p:=by rw [kn,Int.mul_assoc]
theorem FD (r:aq) (w c:Int) (qs:List aB) (hr:r.small) (hq:qs.length < 2 ^ 30):Abs.Spec Tryz.prog 41 [] [.agg r.cells,.int .i64 w,.int .i64 c,.sl 4 (qs.map aB.cells)] [] (.bI [.agg (tC r w c qs),.int .i64 (nX r w c qs)]):=by
 have h2:=dL r hr;have h5:=fun n=>dz r n hr
 have hz0:=jy [];simp only [aq.cells] at h2 h5 |-;refine bu 115 4 [.cell 8 84,.tmp 9] mixed Tryz.func41 ?_;simp only [go_sem,seval];refine aa.pure h2 ?_;cases b2:r.okB
 ·have e:F8 r qs=14:=by simp [F8,b2]
  have e1:nX r w c qs=14:=by simp [nX,e]
  have e2:tC r w c qs=cY [] 0:=by simp [tC,e1]
  rw [e1,e2,hz0];simp only [go_sem,seval]
 simp only [go_sem,seval,aJ];refine aC.walk (S:=Unit) qs.length [1,2,3,4,8,10] [80,144,176] (fun i _=>[(11,.int .i64 i)]) (fun i _=>[]) (fun i _=>∀ j (hj:j < qs.length),j < i->oA qs[j]=true) () (by intros;omega) ?_ ?_ ?_
 ·simp only [go_sem,seval]<;>simp
 ·intro i _ hi hdi hwi hI;have hm:=aG (c:=aB.cells) qs hi;have hv:=eV qs[i].bg (-1099511627776) 1099511627776;rw [Ws] at hv;simp only [aB.cells] at hm;simp only [go_sem,seval,aJ,hdi,hm];(with_reducible and_intros)<;>first|exact .dq|omega|skip
  refine aa.pure hv ?_;cases hb:oA qs[i]
  ·have:qs.all oA=false:=by
    cases hc:qs.all oA
    ·rfl
    ·rw [List.all_eq_true.1 hc _ (List.getElem_mem hi)] at hb;cases hb
   have e:F8 r qs=3:=by simp [F8,b2,this]
   have e1:nX r w c qs=3:=by simp [nX,e]
   have e2:tC r w c qs=cY [] 0:=by simp [tC,e1]
   rw [e1,e2,hz0];simp only [go_sem,seval]
  ·simp only [go_sem,seval,hwi];refine ah.step () hi ?_ ?_
   ·intro j hj hji;rcases Nat.lt_or_ge j i with h | h
    ·exact hI j hj h
    ·obtain rfl:j=i:=by omega
     exact hb
   ·simp only [go_sem,seval]
 intro _ hdx hI
 have hall:qs.all oA=true:=List.all_eq_true.2 fun p hp=>by
  obtain ⟨j,hj,rfl⟩:=List.mem_iff_getElem.1 hp;exact hI j hj hj
 have hE:F8 r qs=0:=by simp [F8,b2,hall]
 have hpo:=Aq (w:=w) (c:=c) hE;have hpl:=rT r w c qs;have e2:nX r w c qs=if ir (jE r w c qs) then 1 else 0:=by simp [nX,hE]
 simp only [tC,e2];clear e2 hI;have hz:=jy (jE r w c qs);simp only [go_sem,seval,aJ,hdx];clear hdx;refine aC.walk (S:=Unit) 6 [1,2,3,4,8,10] [80,144] (fun i _=>[(12,.int .i64 i)]) (fun i _=>[(176,.box (cY (jE r w c qs) i))]) (fun i _=>∀ j < i,bL (gf (jE r w c qs) j)=true) () (by intros;omega) ?_ ?_ ?_
 ·simp only [go_sem,seval,hz]<;>simp
 ·intro j _ hj hdj hwj hI;have hdj:decide ((j:Int) < 6)=true:=hdj;have hall2:=Qb hpo j (by omega);have hset:=Dv (jE r w c qs) hj;obtain ⟨B,hB⟩:=aH (cY (jE r w c qs) j);have hBl:B.length=6:=by rw [hB];rfl
  have hleaf1:∀ d∈cY (jE r w c qs) (j+1),oP d=true:=by simp [cY,fY,oP]
  have hleaf:∀ d∈B,oP d=true:=by rw [hB];simp [cY,fY,oP]
  rw [<- hB] at hset |-;simp only [go_sem,seval,hdj];refine aC.walk (S:=Unit) qs.length [1,2,3,4,8,10,12] [80,144,176] (fun i _=>[(14,.int .i64 i),(13,.ref 1504)]) (fun i _=>[(1504,.own 2 (kD ((jE r w c (qs.take i)).map (kn j))))]) (fun i _=>True) () trivial ?_ ?_ ?_
  ·simp only [go_sem,seval]<;>simp [kD,jE,fq hleaf,jY hleaf]
  ·intro i _ hi hdi hwi _;have hm:=aG (c:=aB.cells) qs hi;have hs:=Fc r w c qs hi;have hlen:=rT r w c (qs.take i);have hlt:(qs.take i).length=i:=by simp;omega
   have hA:=h5 qs[i].inst;obtain ⟨x,hx⟩:=aH (bf r qs[i].inst);have hxok:br r qs[i].inst=true->x.ok=true:=fun h=>by rw [hx];exact vN b2 h
   have hqty:=List.all_eq_true.1 hall qs[i] (List.getElem_mem hi);have hwl:(kD ((jE r w c (qs.take i)).map (kn j))).length<=i:=by simp [kD];omega
   have hlI:(i:Int) < (qs.length:Int):=by omega
   simp only [Ge,<- hx] at hs;rw [<- hx] at hA;simp only [aB.cells] at hm;simp only [ay.cells] at hA;simp only [go_sem,seval,aJ,hdi,hm];(with_reducible and_intros)<;>first|exact .dq|omega|skip
   refine aa.pure hA ?_;cases p1:br r qs[i].inst
   ·simp only [p1,Bool.false_and,fZ,if_false] at hs;simp only [go_sem,seval,aJ,p1,hwi];(with_reducible and_intros)<;>first|exact .dq|omega|skip
    refine ah.step () hi trivial ?_;simp only [go_sem,seval,hs]<;>simp [fq hleaf,jY hleaf]
   cases p2:qs[i].who==w
   ·simp only [p1,p2,Bool.false_and,Bool.true_and,fZ,if_false] at hs;simp only [go_sem,seval,aJ,hm,p1,p2,hwi];(with_reducible and_intros)<;>first|exact .dq|omega|skip
    refine ah.step () hi trivial ?_;simp only [go_sem,seval,hs]<;>simp [fq hleaf,jY hleaf]
   cases p3:x.cur==c
   ·simp only [p1,p2,p3,Bool.and_false,Bool.true_and,fZ,if_false] at hs;simp only [go_sem,seval,aJ,hm,p1,p2,p3,hwi];(with_reducible and_intros)<;>first|exact .dq|omega|skip
    refine ah.step () hi trivial ?_;simp only [go_sem,seval,hs]<;>simp [fq hleaf,jY hleaf]
   simp only [p1,p2,p3,Bool.and_self,if_true] at hs;have hk:=hxok p1;obtain ⟨⟨m1,m2⟩,-⟩:=l9 hk;have hsr:=Bf hk j;simp only [oA,cr,Bool.not_eq_true',decide_eq_false_iff_not] at hqty;have hsa:=Yv ⟨x,qs[i].bg⟩ hj;have r1:=fQ (a:=x.mult) (b:=x.sh j) (A:=1024) (B:=1073741824) (by omega) hsr;have r1:-1099511627776<=x.mult*x.sh j/\x.mult*x.sh j<=1099511627776:=r1;have w1:IntKind.wrap .i64 (0-qs[i].bg) = -qs[i].bg:=by rw [bn (by omega) (by omega)];omega
   have w2:IntKind.wrap .i64 (x.mult*x.sh j)=x.mult*x.sh j:=bn (by omega) (by omega);have ht:=lX (-qs[i].bg) (x.mult*x.sh j) ⟨by omega,by omega⟩ ⟨by omega,by omega⟩;have hF:-qs[i].bg*(x.mult*x.sh j)=kn j ⟨x,qs[i].bg⟩:=TW j ⟨x,qs[i].bg⟩;rw [hF] at ht;simp only [wd] at ht
   have hix2:(List.drop (6+j*1) x.cells).headD .undef=.int .i64 (x.sh j):=by
    rcases j with _ | _ | _ | _ | _ | _ | j<;>first | rfl | omega
   simp only [ay.cells] at hix2;simp only [go_sem,seval,aJ,hm,p1,p2,p3,hwi,w1,hix2,w2];(with_reducible and_intros)<;>first|exact .dq|omega|skip
   refine aa.pure ht ?_;simp only [go_sem,seval,hwi];(with_reducible and_intros)<;>first|exact .dq|omega|skip
   refine ah.step () hi trivial ?_;simp only [go_sem,seval,hs]<;>simp [wd,kD,fq hleaf,jY hleaf]
  ·intro _ hdx _;have hs:=kr ((jE r w c qs).map (kn j)) (by simp;omega) hall2.1;have hI2:=kB (gf (jE r w c qs) j);have e:az ((jE r w c qs).map (kn j))=gf (jE r w c qs) j:=rfl;rw [e,hall2.2,if_pos rfl] at hs;obtain ⟨S,hS⟩:=aH (gf (jE r w c qs) j);rw [<- hS] at hs hI2 hset
   have hgood:bL S=true->∀ k < j+1,bL (gf (jE r w c qs) k)=true:=fun hx k hk=>by
    rcases Nat.lt_or_ge k j with h | h
    ·exact hI k h
    ·obtain rfl:k=j:=by omega
     rw [<- hS];exact hx
   have hbad:bL S=false->ir (jE r w c qs)=true:=fun hx=>by
    simp only [ir,List.any_eq_true,List.mem_range];exact ⟨j,hj,by rw [<- hS,hx];rfl⟩
   simp only [wd] at hs hI2;simp only [go_sem,seval,aJ,hdx,List.take_length];refine aa.gen [] [] true (by simp) ?_;simp only [go_sem,seval];refine aU.intro hs ?_;simp only [go_sem,seval];refine aa.pure hI2 ?_;cases hi:bL S
   ·have hb:=hbad hi;simp only [go_sem,seval,hi,hb,cY,fY]
   ·simp only [go_sem,seval] at hset;simp only [go_sem,seval,hi,hset,hwj];(with_reducible and_intros)<;>first|exact .dq|omega|skip
    refine ah.step () hj (hgood hi) ?_;simp only [go_sem,seval];exact fq hleaf1
 ·intro _ hdx hI;have hdx:decide ((6:Int) < 6)=false:=hdx
  have hb:ir (jE r w c qs)=false:=by
   simp only [ir,List.any_eq_false,List.mem_range];intro k hk;simp [hI k hk]
  simp only [go_sem,seval,hdx,hb,cY,fY]
theorem tN (r:aq) (w c:Int) (qs:List aB) (hr:r.small) (hq:qs.length < 2 ^ 30):Abs.Spec Tryz.prog 20 [] [.agg r.cells,.int .i64 w,.int .i64 c,.sl 4 (qs.map aB.cells)] [] (.bI [.int .i64 (pI r w c qs),.int .i64 (pG r w c qs)]):=by
 have hL:=FD r w c qs hr hq;have h5:=fun n=>dz r n hr
 simp only [aq.cells] at hL h5 |-;refine bu 114 4 [.tmp 8,.tmp 9] mixed Tryz.func20 ?_;simp only [go_sem,seval];refine aa.pure hL ?_
 by_cases hE:nX r w c qs=0
 case neg =>
  have b1:(nX r w c qs != 0)=true:=by simpa using hE
  have e1:pG r w c qs=nX r w c qs:=by simp [pG,hE]
  have e2:pI r w c qs=0:=by simp [pI,hE]
  have e3:tC r w c qs=cY [] 0:=by simp [tC,hE]
  rw [e1,e2,e3,jy];simp only [go_sem,seval,b1]
 obtain ⟨hpc,hbad⟩:=Iy hE;have hpo:=Aq (w:=w) (c:=c) hpc;have hpl:=rT r w c qs
 have hko:r.okB=true/\qs.all oA=true:=by
  unfold F8 at hpc;split at hpc
  ·rename_i h1;split at hpc
   ·rename_i h2;exact ⟨h1,h2⟩
   ·cases hpc
  ·cases hpc
 have e2:pG r w c qs=if bL (BM (jE r w c qs)) then 0 else 1:=by simp [pG,hE]
 have e3:pI r w c qs=if bL (BM (jE r w c qs)) then BM (jE r w c qs) else 0:=by simp [pI,hE]
 have e4:tC r w c qs=[.int .i64 (gf (jE r w c qs) 0),.int .i64 (gf (jE r w c qs) 1),.int .i64 (gf (jE r w c qs) 2),.int .i64 (gf (jE r w c qs) 3),.int .i64 (gf (jE r w c qs) 4),.int .i64 (gf (jE r w c qs) 5)]:=by simp [tC,hE,cY,fY]
 rw [e2,e3,e4];clear e2 e3 e4 hL;have hin:=Fw hbad;obtain ⟨T,hT⟩:=aH (BM (jE r w c qs));rw [<- hT];simp only [BM] at hT;obtain ⟨L,hLd⟩:=aH (gf (jE r w c qs));rw [<- hLd] at hin hT |-;simp only [go_sem,seval,hE];refine aC.walk (S:=Unit) 6 [1,2,3,4,10] [80,176] (fun i _=>[(13,.int .i64 i),(12,.int .i64 (pR L i))]) (fun i _=>[]) (fun i _=>True) () trivial ?_ ?_ ?_
 ·simp only [go_sem,seval]<;>simp [pR]
 ·intro i _ hi hdi hwi _;have hdi:decide ((i:Int) < 6)=true:=hdi;have hsx:=Pj L hi;simp only [go_sem,seval,hdi,hsx,hwi];(with_reducible and_intros)<;>first|exact .dq|omega|skip
  refine ah.step () hi trivial ?_;simp only [go_sem,seval,pR]
 intro _ hdx _;have hdx:decide ((6:Int) < 6)=false:=hdx;have hmr:=Db (f:=L) 6 hin;obtain ⟨M,hM⟩:=aH (pR L 6);rw [<- hM] at hmr hT |-;have hO:=sN M (by omega);simp only [wd] at hO;simp only [go_sem,seval,hdx];refine aa.pure hO ?_;simp only [go_sem,seval,aJ];refine aC.walk (S:=Unit) qs.length [1,2,3,4] [80] (fun i _=>[(15,.int .i64 i),(14,.ref 1552)]) (fun i _=>[(1552,.own 2 (kD (M :: (jE r w c (qs.take i)).map wC)))]) (fun i _=>True) () trivial ?_ ?_ ?_
 ·simp only [go_sem,seval]<;>simp [kD,wd,jE]
 ·intro i _ hi hdi hwi _;have hm:=aG (c:=aB.cells) qs hi;have hs:=Fc r w c qs hi;have hlen:=rT r w c (qs.take i);have hlt:(qs.take i).length=i:=by simp;omega
  have hA:=h5 qs[i].inst;obtain ⟨x,hx⟩:=aH (bf r qs[i].inst);have hxok:br r qs[i].inst=true->x.ok=true:=fun h=>by rw [hx];exact vN hko.1 h
  have hqty:=List.all_eq_true.1 hko.2 qs[i] (List.getElem_mem hi);have hwl:(kD (M :: (jE r w c (qs.take i)).map wC)).length<=i+1:=by simp [kD];omega
  have hlI:(i:Int) < (qs.length:Int):=by omega
  simp only [Ge,<- hx] at hs;rw [<- hx] at hA;simp only [aB.cells] at hm;simp only [ay.cells] at hA;simp only [go_sem,seval,aJ,hdi,hm];(with_reducible and_intros)<;>first|exact .dq|omega|skip
  refine aa.pure hA ?_;cases p1:br r qs[i].inst
  ·simp only [p1,Bool.false_and,fZ,if_false] at hs;simp only [go_sem,seval,aJ,p1,hwi];(with_reducible and_intros)<;>first|exact .dq|omega|skip
   refine ah.step () hi trivial ?_;simp only [go_sem,seval,hs]
  cases p2:qs[i].who==w
  ·simp only [p1,p2,Bool.false_and,Bool.true_and,fZ,if_false] at hs;simp only [go_sem,seval,aJ,hm,p1,p2,hwi];(with_reducible and_intros)<;>first|exact .dq|omega|skip
   refine ah.step () hi trivial ?_;simp only [go_sem,seval,hs]
  cases p3:x.cur==c
  ·simp only [p1,p2,p3,Bool.and_false,Bool.true_and,fZ,if_false] at hs;simp only [go_sem,seval,aJ,hm,p1,p2,p3,hwi];(with_reducible and_intros)<;>first|exact .dq|omega|skip
   refine ah.step () hi trivial ?_;simp only [go_sem,seval,hs]
  simp only [p1,p2,p3,Bool.and_self,if_true] at hs;have hk:=hxok p1;obtain ⟨-,g1,g2⟩:=l9 hk;simp only [oA,cr,Bool.not_eq_true',decide_eq_false_iff_not] at hqty;have w1:IntKind.wrap .i64 (0-qs[i].bg) = -qs[i].bg:=by rw [bn (by omega) (by omega)];omega
  have ht:=lX (max qs[i].bg (-qs[i].bg)) x.add ⟨by omega,by omega⟩ ⟨by omega,by omega⟩;have hF:max qs[i].bg (-qs[i].bg)*x.add=wC ⟨x,qs[i].bg⟩:=rfl;rw [hF] at ht;simp only [wd] at ht;simp only [go_sem,seval,aJ,hm,p1,p2,p3,hwi,w1];(with_reducible and_intros)<;>first|exact .dq|omega|skip
  refine aa.pure ht ?_;simp only [go_sem,seval,hwi];(with_reducible and_intros)<;>first|exact .dq|omega|skip
  refine ah.step () hi trivial ?_;simp only [go_sem,seval,hs]<;>simp [wd,kD]
 ·intro _ hdx _
  have hb:∀ n∈M :: (jE r w c qs).map wC,-1208925819614629174706176<=n/\n<=1208925819614629174706176:=by
   intro n hn;rcases List.mem_cons.1 hn with rfl | hn
   ·omega
   ·obtain ⟨p,hp,rfl⟩:=List.mem_map.1 hn;exact FF (hpo p hp)
  have hs:=kr (M :: (jE r w c qs).map wC) (by simp;omega) (fun n hn=>rO (hb n hn) (by omega));have h2:=sI (B:=1208925819614629174706176) hb;rw [<- hT] at hs h2;simp only [List.length_cons,aJ] at h2;have hin2:qI T=true:=rO (B:=1208925819614629174706176*(((jE r w c qs).length+1:Nat):Int)) h2 (by omega);have hI2:=kB T;rw [hin2,if_pos rfl] at hs;simp only [wd] at hs hI2;simp only [go_sem,seval,aJ,hdx,List.take_length];refine aa.gen [] [] true (by simp) ?_;simp only [go_sem,seval];refine aU.intro hs ?_;simp only [go_sem,seval];refine aa.pure hI2 ?_;cases hi:bL T<;>simp only [go_sem,seval,hi]<;>simp
theorem Spec.frozen {P:Program} {f:FuncId} {ds hs':List D} {d:D} (h:Abs.Spec P f [] ds hs' d) (fz:List Nat) {hs2:List D} {d2:D} (hd:(fM fz (vl [(0,d)] (so 0 hs'))).t 0=d2) (ho:∀ r,(fM fz (vl [(0,d)] (so 0 hs'))).o r=hs2.getD r .undef):Abs.Spec P f [] ds hs2 d2:=by
 refine ⟨h.1,?_⟩;intro w l0 G0 own0 S0 vs hT hl0 hG hsz hr hobj;refine (h.2 w l0 G0 own0 S0 vs hT hl0 hG hsz hr hobj).mono ?_
 rintro e w' ⟨v,rfl,o⟩
 refine ⟨v,rfl,o.os,o.tape,o.output,o.size,o.old,o.part,?_⟩;obtain ⟨lev,own,S,h1,h2,h3,h4,_⟩:=o.rep
 have hi:Inv w l0 G0 S w' lev own S (vl [(0,d)] (so 0 hs')) (fun j=>if j=0 then v else Go.undef):=by
  refine ⟨⟨o.os,hT⟩,o.tape,o.output,o.size,o.old,o.part,h1,h2,fun _ _ _=>rfl,?_,?_⟩
  ·intro s
   show aE _ _ (Abs.look [(0,d)] s)
   by_cases hs:s=0
   ·subst hs;simpa [Abs.look] using h3
   ·simp only [Abs.look,if_neg hs];exact .undef _
  ·intro r
   show kf _ _ _ _ _ _ r (Abs.look (so 0 hs') r)
   rw [oX];simpa using h4 r
 obtain ⟨lev',S',hi'⟩:=Inv.Uj fz hi (fun _ _=>trivial);refine ⟨lev',own,S',hi'.priv,hi'.iP,?_,?_,fun i h=>by cases h⟩
 ·have:=hi'.lU 0;rw [hd] at this;simpa using this
 ·intro r;have:=hi'.objs r
  rwa [ho] at this
def aq.jt (r:aq):Prop:=r.ms.length < 2 ^ 30/\r.ns.length < 2 ^ 30/\r.xs.length < 2 ^ 30
theorem aq.jt.small {r:aq} (h:r.jt):r.small:=⟨by have:=h.1;omega,by have:=h.2.1;omega,by have:=h.2.2;omega⟩
theorem mS (r:aq) (hr:r.jt):Abs.Spec Tryz.prog 123 [] [.agg r.cells] [.own 3 (r.ms.map ak.cells),.own 12 (r.ns.map ay.cells),.own 4 (r.xs.map au.cells)] (.agg [.ref 0,.ref 1,.ref 2]):=by
 obtain ⟨l1,l2,l3⟩:=hr;simp only [aq.cells];refine bu 23 1 [.cell 2 29] mixed Tryz.func123 ?_;simp only [go_sem,seval,aJ];omega
theorem qq (b:aF) (hb:b.small):Abs.Spec Tryz.prog 124 [] [.agg b.cells] [.own 7 (b.ts.map aL.cells),.own 4 (b.qs.map aB.cells)] (.agg [.int .i64 b.next,.ref 0,.ref 1]):=by
 obtain ⟨l1,l2⟩:=hb;simp only [aF.cells];refine bu 20 1 [.cell 2 33] mixed Tryz.func124 ?_;simp only [go_sem,seval,aJ];omega
theorem KH (l:bz) (hl:l.bs.length < 2 ^ 30):Abs.Spec Tryz.prog 125 [] [.agg l.cells] [.own 4 (l.bs.map bC.cells)] (.agg [.int .i64 l.last,.ref 0]):=by
 simp only [bz.cells];refine bu 14 1 [.cell 2 36] mixed Tryz.func125 ?_;simp only [go_sem,seval,aJ];omega
theorem EY (x:bq) (h:x.fits):Abs.Spec Tryz.prog 54 [] [.agg x.cells] [.own 3 (x.TQ.map aQ.cells),.own 8 (x.falls.map eY.cells)] (.agg [.int .i64 x.code,.int .i64 x.no,.int .i64 x.cm,.ref 0,.ref 1]):=by
 obtain ⟨h1,h2⟩:=h;simp only [bq.cells];refine bu 24 1 [.cell 2 91] mixed Tryz.func54 ?_;simp only [go_sem,seval,aJ];omega
theorem l8 (x:bq) (h:x.fits):Abs.Spec Tryz.prog 54 [] [.agg x.cells] [] (.agg x.cells):=by
 refine Spec.frozen (EY x h) [0,1] ?_ ?_
 ·simp only [bq.cells];rfl
 ·intro r;rcases r with _ | _ | r
  ·rfl
  ·rfl
  ·rfl
structure af.small (s:af):Prop where
 aj:s.aj.jt
 book:s.book.small
 aW:s.aW.bs.length < 2 ^ 30
 ps:s.ps.length < 2 ^ 30
 calls:s.calls.length < 2 ^ 30
 bp:s.bp.length < 2 ^ 30
 aN:s.aN.length < 2 ^ 30
 rs:∀ x∈s.aN,x.r.fits
def F5 (s:af):List D:=[.int .i64 s.now,.int .i64 s.day,.int .i64 s.phase,.ref 0,.ref 1,.ref 2,.int .i64 s.book.next,.ref 3,.ref 4,.int .i64 s.aW.last,.ref 5,.ref 6,.ref 7,.ref 8,.ref 9]
def LB (s:af):List D:=[.own 3 (s.aj.ms.map ak.cells),.own 12 (s.aj.ns.map ay.cells),.own 4 (s.aj.xs.map au.cells),.own 7 (s.book.ts.map aL.cells),.own 4 (s.book.qs.map aB.cells),.own 4 (s.aW.bs.map bC.cells),.own 3 (pl s.ps),.own 4 (s.calls.map aA.cells),.own 5 (s.bp.map bM.cells),.own 7 (s.aN.map ck.cells)]
theorem om (s:af) (hs:s.small):Abs.Spec Tryz.prog 52 [] [.agg s.cells] (LB s) (.agg (F5 s)):=by
 have h1:=mS s.aj hs.aj;have h2:=qq s.book hs.book;have h3:=KH s.aW hs.aW;have e1:=hs.ps;have e2:=hs.calls;have e3:=hs.bp;have e4:=hs.aN;simp only [aq.cells] at h1;simp only [aF.cells] at h2;simp only [bz.cells] at h3;simp only [af.cells,LB,F5];refine bu 68 1 [.cell 2 42] mixed Tryz.func52 ?_;simp only [go_sem,seval];(with_reducible and_intros)<;>first|exact .dq|omega|skip
 refine aa.gen [] [] false (by simp) ?_;simp only [go_sem,seval];refine aU.intro h1 ?_;simp only [go_sem,seval];(with_reducible and_intros)<;>first|exact .dq|omega|skip
 refine aa.gen [] [] false (by simp) ?_;simp only [go_sem,seval];refine aU.intro h2 ?_;simp only [go_sem,seval];(with_reducible and_intros)<;>first|exact .dq|omega|skip
 refine aa.gen [] [] false (by simp) ?_;simp only [go_sem,seval];refine aU.intro h3 ?_;simp only [go_sem,seval,aJ];(with_reducible and_intros)<;>first|exact .dq|omega|skip
 refine aC.walk (S:=Unit) s.aN.length [1,2,3] [32,48,160,161,162,208,209,256,352,448,544] (fun i _=>[(4,.int .i64 i)])
  (fun i _=>[(64,.box [.int .i64 s.now,.int .i64 s.day,.int .i64 s.phase,.ref 160,.ref 161,.ref 162,.int .i64 s.book.next,.ref 208,.ref 209,.int .i64 s.aW.last,.ref 256,.ref 352,.ref 448,.ref 544,.ref 1056]),(1056,.own 7 ((s.aN.take i).map ck.cells))]) (fun _ _=>True) () trivial ?_ ?_ ?_
 ·simp only [go_sem,seval]<;>simp
 ·intro i _ hi hdi hwi _;have hm:=aG (c:=ck.cells) s.aN hi;have hr:=l8 s.aN[i].r (hs.rs _ (List.getElem_mem hi))
  have hnext:(s.aN.take (i+1)).map ck.cells=(s.aN.take i).map ck.cells++[s.aN[i].cells]:=by
   rw [List.take_succ_eq_append_getElem hi,List.map_append,List.map_cons,List.map_nil]
  have hlt:((s.aN.take i).map ck.cells).length=i:=by simp;omega
  simp only [ck.cells] at hm;simp only [bq.cells] at hr;simp only [go_sem,seval,hdi,hm,aJ];(with_reducible and_intros)<;>first|exact .dq|omega|skip
  refine aa.pure hr ?_;simp only [go_sem,seval,hwi,hlt];(with_reducible and_intros)<;>first|exact .dq|omega|skip
  refine ah.step () hi trivial ?_;simp only [go_sem,seval,hnext,ck.cells]
 ·intro _ hdx _;have ht:(s.aN.take s.aN.length).map ck.cells=s.aN.map ck.cells:=by rw [List.take_length]
  simp only [go_sem,seval,hdx,aJ,ht]
def aD.same (x y:aD):Bool:=x.kind==y.kind&&(x.who==y.who&&x.cur==y.cur)
theorem HO (x y:aD):Abs.Spec Tryz.prog 18 [] [.agg x.cells,.agg y.cells] [] (.bool (x.same y)):=by
 simp only [aD.cells];refine bu 24 2 [.tmp 4] mixed Tryz.func18 ?_;simp only [go_sem,seval]
 repeat' with_reducible first|apply And.intro|exact .dq|refine aa.pure (by assumption) ?_|refine .aT (fun h=>?_) fun h=>?_|refine .aO (fun h=>?_) fun h=>?_|refine .aS (fun h=>?_) fun h=>?_|refine .split (fun h=>?_) fun h=>?_|refine .id ?_|refine ah.next (by omega) ?_ ?_|exact trivial|simp only [*,go_sem,seval]
 all_goals (simp_all [aD.same])
theorem ng {x y:aD}:x.less y=true ↔ x.kind < y.kind\/(x.kind=y.kind/\(x.who < y.who\/(x.who=y.who/\x.cur < y.cur))):=by
 unfold aD.less;split
 ·simp;omega
 ·split<;>simp<;>omega
theorem TD {x y:aD}:x.same y=true ↔ x.kind=y.kind/\x.who=y.who/\x.cur=y.cur:=by simp [aD.same]
theorem LY {bs:List bC} (h:kK bs=true):bs.Pairwise (fun x y=>x.bB.less y.bB=true):=by
 rw [List.pairwise_iff_getElem]
 have step:∀ k (hk:k+1 < bs.length),bs[k].bB.less bs[k+1].bB=true:=fun k hk=>by
  have:=List.all_eq_true.1 h (k+1) (List.mem_range.2 hk);rw [jk hk,cr] at this;exact this.2
 have key:∀ d k (hk:k+d+1 < bs.length),bs[k].bB.less bs[k+d+1].bB=true:=by
  intro d
  induction d with
  | zero=>intro k hk;exact step k hk
  | succ d ih =>
   intro k hk;have h1:=ng.1 (ih k (by omega));have h2:=ng.1 (step (k+d+1) hk);have h3:bs[k].bB.less bs[k+d+1+1].bB=true:=ng.2 (by omega);exact h3
 intro i j hi hj hij;have:=key (j-i-1) i (by omega);have e:i+(j-i-1)+1=j:=by omega
 simpa only [e] using this
theorem ad4 {l:bz} {r:aq} {ps:List dS} {w c:Int} (h:vP l r ps w c=0):r.okB=true/\fE r w c ps=0/\tG l r ps w c=fj ⟨2,w,c⟩ l.bs+W7 r w c ps/\bL (tG l r ps w c)=true:=by
 have h0:o9 l r ps=0:=by
  by_cases hb:(o9 l r ps != 0)=true
  ·simp only [vP,hb,if_true] at h;exact h
  ·simpa using hb
 have hb0:(o9 l r ps != 0)=false:=by simp [h0]
 have hr:r.okB=true:=by
  unfold o9 at h0;split at h0
  ·rename_i hh;simp only [cr] at hh;exact hh.1.2
  ·cases h0
 have h1:fE r w c ps=0:=by
  by_cases hb:(fE r w c ps != 0)=true
  ·simp only [vP,hb0,hb,if_true,fZ,if_false] at h;exact h
  ·simpa using hb
 have hb1:(fE r w c ps != 0)=false:=by simp [h1]
 simp only [vP,hb0,hb1,fZ,if_false] at h
 have hs:right (fj ⟨2,w,c⟩ l.bs :: gD r w c ps)=true/\bL (az (fj ⟨2,w,c⟩ l.bs :: gD r w c ps))=true:=by
  unfold qM at h;split at h
  ·rename_i hh;split at h
   ·rename_i hi;exact ⟨hh,hi⟩
   ·cases h
  ·cases h
 have hN:tG l r ps w c=az (fj ⟨2,w,c⟩ l.bs :: gD r w c ps):=by
  simp [tG,hb0,hb1,qB,hs.1,hs.2]
 refine ⟨hr,h1,?_,by rw [hN];exact hs.2⟩;rw [hN];simp only [az,PX]
def Rt (s:af) (w c:Int):Int:=
 if vP s.aW s.aj s.ps w c=0 then (if s.book.okB then (if pG s.aj w c s.book.qs=0 then (if pI s.aj w c s.book.qs<=tG s.aW s.aj s.ps w c then 0 else zJ (pI s.aj w c s.book.qs) (tG s.aW s.aj s.ps w c)) else pG s.aj w c s.book.qs) else 14) else vP s.aW s.aj s.ps w c
def Hg (s:af) (w c:Int):Int:=
 if vP s.aW s.aj s.ps w c=0 then (if s.book.okB then (if pG s.aj w c s.book.qs=0 then (if pI s.aj w c s.book.qs<=tG s.aW s.aj s.ps w c then 0 else xE (pI s.aj w c s.book.qs) (tG s.aW s.aj s.ps w c)) else 0) else 0) else 0
structure af.fit (s:af):Prop where
 aj:s.aj.small
 book:s.book.small
 aW:s.aW.bs.length < 2 ^ 30
 ps:s.ps.length < 2 ^ 30
theorem OH (s:af) (w c:Int) (hs:s.fit):Abs.Spec Tryz.prog 39 [] [.agg s.cells,.int .i64 w,.int .i64 c] [] (.bI [.int .i64 (Hg s w c),.int .i64 (Rt s w c)]):=by
 obtain ⟨hr,hb,hl,hp⟩:=hs;have h1:=Qq s.aW s.aj s.ps w c hl hr hp;have h2:=vm s.book hb;have h3:=CO s.aj w c s.book.qs hr hb.2;have h4:=K8 (pI s.aj w c s.book.qs) (tG s.aW s.aj s.ps w c);simp only [bz.cells,aq.cells,aF.cells] at h1 h2 h3;simp only [af.cells,Hg,Rt];obtain ⟨N1,hN1⟩:∃ x,x=tG s.aW s.aj s.ps w c:=⟨_,rfl⟩
 obtain ⟨E1,hE1⟩:∃ x,x=vP s.aW s.aj s.ps w c:=⟨_,rfl⟩
 obtain ⟨N3,hN3⟩:∃ x,x=pI s.aj w c s.book.qs:=⟨_,rfl⟩
 obtain ⟨E3,hE3⟩:∃ x,x=pG s.aj w c s.book.qs:=⟨_,rfl⟩
 rw [<- hN1,<- hE1] at h1;rw [<- hN3,<- hE3] at h3;rw [<- hN3,<- hN1] at h4;rw [<- hN1,<- hE1,<- hN3,<- hE3];refine bu 53 3 [.tmp 6,.tmp 7] mixed Tryz.func39 ?_;simp only [go_sem,seval];refine aa.pure h1 ?_
 by_cases e1:E1=0
 case neg =>
  have b1:(E1==0)=false:=by simpa using e1
  simp only [go_sem,seval,bne,b1,if_neg e1]
 have b1:(E1==0)=true:=by simpa using e1
 simp only [go_sem,seval,b1,if_pos e1];refine aa.pure h2 ?_;cases b2:s.book.okB
 ·simp only [go_sem,seval]
 simp only [go_sem,seval];refine aa.pure h3 ?_
 by_cases e3:E3=0
 case neg =>
  have b3:(E3==0)=false:=by simpa using e3
  simp only [go_sem,seval,bne,b3,if_neg e3]
 have b3:(E3==0)=true:=by simpa using e3
 by_cases e4:N3<=N1
 ·have d4:decide (N3<=N1)=true:=decide_eq_true e4;simp only [go_sem,seval,bne,b3,d4,if_pos e3,if_pos e4]
 ·have d4:decide (N3<=N1)=false:=decide_eq_false e4;simp only [go_sem,seval,bne,b3,d4,if_pos e3,if_neg e4];refine aa.pure h4 ?_;simp only [go_sem,seval]
theorem yA (r:aq) (w c:Int) (qs:List aB):bL (pI r w c qs)=true:=by
 unfold pI;split
 ·split
  ·assumption
  ·decide
 ·decide
theorem aaV {l:bz} (h:l.okB=true):kK l.bs=true/\∀ z∈l.bs,bL z.sum=true:=by
 simp only [bz.okB,cr] at h;refine ⟨h.1.2,fun z hz=>?_⟩;obtain ⟨i,hi,rfl⟩:=List.mem_iff_getElem.1 hz;have:=List.all_eq_true.1 h.1.2 i (List.mem_range.2 hi)
 have hk:kM l.bs[i]=true:=by
  rcases Nat.eq_zero_or_pos i with rfl | hp
  ·rwa [jW hi] at this
  ·obtain ⟨j,rfl⟩:∃ j,i=j+1:=⟨i-1,by omega⟩
   rw [jk hi,cr] at this;exact this.1
 simp only [kM,cr] at hk;exact hk.2.1
theorem QJ {l:List Int} (h:∀ n∈l,dj n) (hl:l.length < 2 ^ 58):(∀ n∈l,qI n=true)/\qI (az l)=true:=by
 have h1:∀ n∈l,-9223372036854775808<=n/\n<=9223372036854775808:=fun n hn=>by have:=h n hn;exact ⟨this.1,by have:=this.2;omega⟩
 refine ⟨fun n hn=>rO (h1 n hn) (by omega),?_⟩;exact rO (B:=9223372036854775808*(l.length:Int)) (sI h1) (by omega)
def addN (l:List Int):Int:=if bL (az l) then az l else 0
theorem cE (l:List Int) (h:∀ n∈l,dj n) (hl:l.length < 2 ^ 30):Abs.Spec Tryz.prog 49 [] [.sl 1 (ints l)] [] (.bI [.int .i64 (addN l),.bool (bL (az l))]):=by
 obtain ⟨h1,h2⟩:=QJ h (by omega);have hs:=kr l (by omega) h1;have hI:=kB (az l);rw [h2,if_pos rfl] at hs;simp only [wd] at hs hI;refine bu 33 1 [.tmp 2,.tmp 3] mixed Tryz.func49 ?_;simp only [go_sem,seval,av];refine aC.walk (S:=Unit) l.length [0] [] (fun i _=>[(5,.int .i64 i),(4,.ref 352)]) (fun i _=>[(352,.own 2 (kD (l.take i)))]) (fun _ _=>True) () trivial ?_ ?_ ?_
 ·simp only [go_sem,seval]<;>simp [kD]
 ·intro i _ hi hdi hwi _;have hO:=sN l[i] (h _ (List.getElem_mem hi));have hnext:kD (l.take (i+1))=kD (l.take i)++[wd l[i]]:=by rw [List.take_succ_eq_append_getElem hi];simp only [kD,List.map_append,List.map_cons,List.map_nil]
  have hlen:(kD (l.take i)).length=i:=by simp [kD];omega
  simp only [wd] at hO;simp only [go_sem,seval,av,hdi,ints_at l hi];(with_reducible and_intros)<;>first|exact .dq|omega|skip
  refine aa.pure hO ?_;simp only [go_sem,seval,hwi,hlen];(with_reducible and_intros)<;>first|exact .dq|omega|skip
  refine ah.step () hi trivial ?_;simp only [go_sem,seval,hnext]<;>simp [wd]
 ·intro _ hdx _;simp only [go_sem,seval,av,hdx,List.take_length];refine aa.gen [] [] true (by simp) ?_;simp only [go_sem,seval];refine aU.intro hs ?_;simp only [go_sem,seval];refine aa.pure hI ?_;simp only [go_sem,seval,addN]
theorem fT (x:aD):Abs.Spec Tryz.prog 121 [] [.agg x.cells] [] (.bool x.right):=by
 simp only [aD.cells];refine bu 40 1 [.tmp 2] mixed Tryz.func121 ?_;simp only [go_sem,seval]
 repeat' with_reducible first|apply And.intro|exact .dq|refine aa.pure (by assumption) ?_|refine .aT (fun h=>?_) fun h=>?_|refine .aO (fun h=>?_) fun h=>?_|refine .aS (fun h=>?_) fun h=>?_|refine .split (fun h=>?_) fun h=>?_|refine .id ?_|refine ah.next (by omega) ?_ ?_|exact trivial|simp only [*,go_sem,seval]
 all_goals (try simp only [decide_eq_true_eq,decide_eq_false_iff_not] at *)
 all_goals (unfold aD.right;simp_all [owned];try (intros;omega))
theorem uz (x:aD):Abs.Spec Tryz.prog 170 [] [.agg x.cells] [] (.int .i64 x.floor):=by
 have hr:=fT x;simp only [aD.cells] at hr |-;refine bu 15 1 [.tmp 2] mixed Tryz.func170 ?_;simp only [go_sem,seval]
 repeat' with_reducible first|apply And.intro|exact .dq|refine aa.pure (by assumption) ?_|refine aa.pure (hr) ?_|refine .aT (fun h=>?_) fun h=>?_|refine .aO (fun h=>?_) fun h=>?_|refine .aS (fun h=>?_) fun h=>?_|refine .split (fun h=>?_) fun h=>?_|refine .id ?_|refine ah.next (by omega) ?_ ?_|exact trivial|simp only [*,go_sem,seval]
 all_goals (unfold aD.floor;simp [*])
theorem Ho (x y:aD):Abs.Spec Tryz.prog 171 [] [.agg x.cells,.agg y.cells] [] (.bool (x.less y)):=by
 simp only [aD.cells];refine bu 30 2 [.tmp 4] mixed Tryz.func171 ?_;simp only [go_sem,seval]
 repeat' with_reducible first|apply And.intro|exact .dq|refine aa.pure (by assumption) ?_|refine .aT (fun h=>?_) fun h=>?_|refine .aO (fun h=>?_) fun h=>?_|refine .aS (fun h=>?_) fun h=>?_|refine .split (fun h=>?_) fun h=>?_|refine .id ?_|refine ah.next (by omega) ?_ ?_|exact trivial|simp only [*,go_sem,seval]
 all_goals (unfold aD.less;simp_all)
theorem qu (x y:aD):Abs.Spec Tryz.prog 27 [] [.agg x.cells,.agg y.cells] [] (.bool (x.same y)):=by
 simp only [aD.cells];refine bu 24 2 [.tmp 4] mixed Tryz.func27 ?_;simp only [go_sem,seval]
 repeat' with_reducible first|apply And.intro|exact .dq|refine aa.pure (by assumption) ?_|refine .aT (fun h=>?_) fun h=>?_|refine .aO (fun h=>?_) fun h=>?_|refine .aS (fun h=>?_) fun h=>?_|refine .split (fun h=>?_) fun h=>?_|refine .id ?_|refine ah.next (by omega) ?_ ?_|exact trivial|simp only [*,go_sem,seval]
 all_goals (simp_all [aD.same])
theorem gV (l:bz) (a:aD) (hl:l.bs.length < 2 ^ 30):Abs.Spec Tryz.prog 12 [] [.agg l.cells,.agg a.cells] [] (.int .i64 (fj a l.bs)):=by
 simp only [bz.cells,aD.cells];refine bu 27 2 [.tmp 4] mixed Tryz.func12 ?_;simp only [go_sem,seval,aJ];refine aC.walk (S:=Unit) l.bs.length [2,3] [48,64] (fun i _=>[(5,.int .i64 i)]) (fun _ _=>[]) (fun i _=>fj a (l.bs.drop i)=fj a l.bs) () rfl ?_ ?_ ?_
 ·simp only [go_sem,seval]<;>simp
 ·intro i _ hi hdi hwi hI;have hm:=aG (c:=bC.cells) l.bs hi;obtain ⟨z,hz⟩:=aH (l.bs[i]);have hS:=qu z.bB a;have hlt:(i:Int) < (l.bs.length:Int):=by omega
  rw [dN hi] at hI;rw [<- hz] at hm hI;simp only [fj] at hI;have e:Wo a z=z.bB.same a:=by simp [Wo,aD.same,bC.bB]
  rw [e] at hI;simp only [aD.cells,bC.cells,bC.bB] at hS hm;simp only [go_sem,seval,aJ,hdi,hm];(with_reducible and_intros)<;>first|exact .dq|omega|skip
  refine aa.pure hS ?_;cases hb:aD.same ⟨z.kind,z.who,z.cur⟩ a
  ·rw [show z.bB.same a=false from hb] at hI;simp only [fZ,if_false] at hI;simp only [go_sem,seval,hwi];refine ah.step () hi hI ?_;simp only [go_sem,seval]
  ·rw [show z.bB.same a=true from hb,if_pos rfl] at hI;simp only [go_sem,seval,aJ,hm,<- hI];(with_reducible and_intros)<;>first|exact .dq|omega|skip
 ·intro _ hdx hI;simp only [List.drop_length,fj] at hI;simp only [go_sem,seval,aJ,hdx,<- hI]
def lR (ks:List Int) (k:Int):Bool:=ks.any (· == k)
def zk (c:Int) (ks:List Int) (bs:List bC):List Int:=(bs.filter fun b=>lR ks b.kind&&b.cur==c).map bC.sum
theorem R8 (c:Int) (ks:List Int) (bs:List bC) {i:Nat} (h:i < bs.length):zk c ks (bs.take (i+1))=if lR ks bs[i].kind&&bs[i].cur==c then zk c ks (bs.take i)++[bs[i].sum] else zk c ks (bs.take i):=by
 simp only [zk];rw [List.take_succ_eq_append_getElem h,List.filter_append,List.map_append];cases hb:(lR ks bs[i].kind&&bs[i].cur==c)<;>simp [List.filter,hb]
theorem LV (c:Int) (ks:List Int) (bs:List bC):(zk c ks bs).length<=bs.length:=by
 simp only [zk,aJ];exact List.length_filter_le _ _
theorem T8 {c:Int} {ks:List Int} {bs:List bC} (h:∀ b∈bs,b.cU):∀ n∈zk c ks bs,dj n:=by
 intro n hn;simp only [zk,List.mem_map,List.mem_filter] at hn;obtain ⟨b,⟨hb,_⟩,rfl⟩:=hn;exact (h b hb).2.2.2
theorem vg (ks:List Int) (k:Int) {i:Nat} (h:i < ks.length):lR (ks.take (i+1)) k=(lR (ks.take i) k||ks[i]==k):=by
 simp only [lR];rw [List.take_succ_eq_append_getElem h,List.any_append];simp
theorem GQ (l:bz) (c:Int) (ks:List Int) (hl:l.bs.length < 2 ^ 30) (hk:ks.length < 2 ^ 30) (hr:∀ b∈l.bs,b.cU):Abs.Spec Tryz.prog 172 [] [.agg l.cells,.int .i64 c,.sl 1 (ints ks)] [] (.bI [.int .i64 (addN (zk c ks l.bs)),.bool (bL (az (zk c ks l.bs)))]):=by
 have htl:=LV c ks l.bs;have hA:=cE (zk c ks l.bs) (T8 hr) (by omega);simp only [bz.cells];refine bu 65 3 [.tmp 6,.tmp 7] mixed Tryz.func172 ?_;simp only [go_sem,seval,aJ,av];refine aC.walk (S:=Unit) l.bs.length [1,2,3] [64] (fun i _=>[(9,.int .i64 i),(8,.ref 976)]) (fun i _=>[(976,.own 1 (ints (zk c ks (l.bs.take i))))]) (fun _ _=>True) () trivial ?_ ?_ ?_
 ·simp only [go_sem,seval]<;>simp [zk,ints]
 ·intro i _ hi hdi hwi _;have hm:=aG (c:=bC.cells) l.bs hi;have hs:=R8 c ks l.bs hi;have hlen:=LV c ks (l.bs.take i);have hlt:(l.bs.take i).length=i:=by simp;omega
  have hli:(i:Int) < (l.bs.length:Int):=by omega
  obtain ⟨z,hz⟩:=aH (l.bs[i]);rw [<- hz] at hm hs;simp only [bC.cells] at hm;simp only [go_sem,seval,aJ,hdi,av];refine aC.walk (S:=Unit) ks.length [1,2,3,8,9] [64,976] (fun k _=>[(11,.int .i64 k),(10,.bool (lR (ks.take k) z.kind))]) (fun _ _=>[]) (fun _ _=>True) () trivial ?_ ?_ ?_
  ·simp only [go_sem,seval]<;>simp [lR]
  ·intro k _ hk hdk hwk _;have hst:=vg ks z.kind hk;cases hb:lR (ks.take k) z.kind
   ·rw [hb,Bool.false_or] at hst;simp only [go_sem,seval,aJ,av,hdk,ints_at ks hk,hm,hwk];(with_reducible and_intros)<;>first|exact .dq|omega|skip
    refine ah.step () hk trivial ?_;simp only [go_sem,seval,hst]
   ·rw [hb,Bool.true_or] at hst;simp only [go_sem,seval,aJ,av,hdk,ints_at ks hk,hm,hwk];(with_reducible and_intros)<;>first|exact .dq|omega|skip
    refine ah.step () hk trivial ?_;simp only [go_sem,seval,hst]
  ·intro _ hdk _;cases b1:lR ks z.kind
   ·simp only [b1,Bool.false_and,fZ,if_false] at hs;simp only [go_sem,seval,av,aJ,hdk,List.take_length,b1,hwi];(with_reducible and_intros)<;>first|exact .dq|omega|skip
    refine ah.step () hi trivial ?_;simp only [go_sem,seval,hs]
   cases b2:z.cur==c
   ·simp only [b1,b2,Bool.and_false,fZ,if_false] at hs;simp only [go_sem,seval,av,aJ,hdk,List.take_length,b1,hm,b2,hwi];(with_reducible and_intros)<;>first|exact .dq|omega|skip
    refine ah.step () hi trivial ?_;simp only [go_sem,seval,hs]
   simp only [b1,b2,Bool.and_self,if_true] at hs;simp only [go_sem,seval,av,aJ,hdk,List.take_length,b1,hm,b2,hwi];(with_reducible and_intros)<;>first|exact .dq|omega|skip
   refine ah.step () hi trivial ?_;simp only [go_sem,seval,hs]<;>simp [ints]
 ·intro _ hdx _;simp only [go_sem,seval,av,aJ,hdx,List.take_length];refine aa.gen [] [] true (by simp) ?_;simp only [go_sem,seval];refine aU.intro hA ?_;simp only [go_sem,seval]
theorem Vd {bs:List bC} {i:Nat} (hI:∀ j < i,nj bs j=true) (h0:nj bs i=true):∀ k < i+1,nj bs k=true:=fun k hk=>by
 rcases Nat.lt_or_ge k i with h | h
 ·exact hI k h
 ·obtain rfl:k=i:=by omega
  exact h0
theorem QA {bs:List bC} (h:kK bs=true) (c:Int):zk c [1,2,3,4,5,6] bs=fB c bs/\∀ n∈fB c bs,bL n=true:=by
 have hk:∀ b∈bs,kM b=true:=fun b hb=>by
  obtain ⟨i,hi,rfl⟩:=List.mem_iff_getElem.1 hb;have:=List.all_eq_true.1 h i (List.mem_range.2 hi);rcases Nat.eq_zero_or_pos i with rfl | hp
  ·rwa [jW hi] at this
  ·obtain ⟨j,rfl⟩:∃ j,i=j+1:=⟨i-1,by omega⟩
   rw [jk hi,cr] at this;exact this.1
 refine ⟨?_,fun n hn=>?_⟩
 ·unfold zk fB;congr 1;refine List.filter_congr fun b hb=>?_
  have:=hk b hb;simp only [kM,cr] at this;have h1:=this.1;unfold aD.right at h1;split at h1
  ·cases h1
  ·rename_i h2;simp only [bC.bB] at h2
   have e:lR [1,2,3,4,5,6] b.kind=true:=by
    simp only [lR,List.any_cons,List.any_nil,Bool.or_eq_true,beq_iff_eq];omega
   rw [e,Bool.true_and]
 ·simp only [fB,List.mem_map,List.mem_filter] at hn;obtain ⟨b,⟨hb,_⟩,rfl⟩:=hn;have:=hk b hb;simp only [kM,cr] at this;exact this.2.1
theorem I0 {l:List Int} (h:∀ n∈l,bL n=true):right l=true:=List.all_eq_true.2 h
theorem iL (l:bz) (hl:l.bs.length < 2 ^ 30) (hr:∀ b∈l.bs,b.cU):Abs.Spec Tryz.prog 93 [] [.agg l.cells] [] (.bool l.okB):=by
 have hT:=fun c=>GQ l c [1,2,3,4,5,6] hl (by simp) hr
 simp only [bz.cells,ints,List.map_cons,List.map_nil] at hT |-;refine bu 80 1 [.tmp 2] mixed Tryz.func93 ?_;rcases Int.lt_or_le l.last 0 with h0 | h0
 ·have d0:decide (l.last < 0)=true:=by simpa using h0
  have e:l.okB=false:=by simp [bz.okB];omega
  simp only [go_sem,seval,d0,e]
 have d0:decide (l.last < 0)=false:=by simpa using h0
 simp only [go_sem,seval,d0,aJ];refine aC.count l.bs.length [1] [32] (fun i=>[(3,.int .i64 i)]) (fun i=>[]) (fun i=>∀ j < i,nj l.bs j=true) (by simp) ?_ ?_
 ·simp only [go_sem,seval]<;>simp
 intro i hi hI;simp only [go_sem,seval,aJ];refine bH.aO (fun h=>?_) (fun h=>?_)
 ·have hi':i < l.bs.length:=by omega
  have hw:IntKind.wrap .i64 ((i:Int)+1)=((i+1:Nat):Int):=by rw [bn (by omega) (by omega)];omega
  have hm:=aG (c:=bC.cells) l.bs hi';have h1:=fT l.bs[i].bB;have h2:=dn l.bs[i].sum;have h3:=uz l.bs[i].bB;have e0:=Vd (i:=i) hI;have e1:nj l.bs i=false->l.okB=false:=fun hx=>by simp [bz.okB,Bg hi' hx]
  simp only [bC.cells,aD.cells,bC.bB] at hm h1 h3;clear hT;rcases Nat.eq_zero_or_pos i with rfl | hpos
  ·have hk:=jW hi';simp only [kM,bC.bB] at hk;simp only [go_sem,seval,hm,aJ]
   repeat' with_reducible first|apply And.intro|exact .dq|refine aa.pure (by assumption) ?_|refine aa.pure (h1) ?_|refine aa.pure (h2) ?_|refine aa.pure (h3) ?_|refine .aT (fun h=>?_) fun h=>?_|refine .aO (fun h=>?_) fun h=>?_|refine .aS (fun h=>?_) fun h=>?_|refine .split (fun h=>?_) fun h=>?_|refine .id ?_|refine ah.next (by omega) ?_ ?_|exact trivial|simp only [*,go_sem,seval]
   all_goals first
    | omega
    | rfl
    | (refine e0 ?_;clear e0 e1;rw [hk];clear hk;simp [bne, *];done)
    | (rw [e1 ?_];clear e0 e1;rw [hk];clear hk;simp [bne, *];done)
  ·obtain ⟨j,rfl⟩:∃ j,i=j+1:=⟨i-1,by omega⟩
   have hj:j < l.bs.length:=by omega
   have hw1:IntKind.wrap .i64 (((j+1:Nat):Int)-1)=(j:Int):=by rw [bn (by omega) (by omega)];omega
   have hk:=jk hi';simp only [kM,bC.bB] at hk;have hmj:=aG (c:=bC.cells) l.bs hj;have h4:=Ho l.bs[j].bB l.bs[j+1].bB;simp only [bC.cells,aD.cells,bC.bB] at hmj h4;simp only [go_sem,seval,hm,aJ]
   repeat' with_reducible first|apply And.intro|exact .dq|refine aa.pure (by assumption) ?_|refine aa.pure (h1) ?_|refine aa.pure (h2) ?_|refine aa.pure (h3) ?_|refine aa.pure (h4) ?_|refine .aT (fun h=>?_) fun h=>?_|refine .aO (fun h=>?_) fun h=>?_|refine .aS (fun h=>?_) fun h=>?_|refine .split (fun h=>?_) fun h=>?_|refine .id ?_|refine ah.next (by omega) ?_ ?_|exact trivial|simp only [*,go_sem,seval,hmj,aJ]
   all_goals first
    | omega
    | rfl
    | (refine e0 ?_;clear e0 e1;rw [hk];clear hk;simp [bne, *];done)
    | (rw [e1 ?_];clear e0 e1;rw [hk];clear hk;simp [bne, *];done)
 have hs:=qx (fun j (hj:j < l.bs.length)=>hI j (by omega))
 have hbal:∀ c:Int,j9 l.bs c=(bL (az (fB c l.bs))&&addN (fB c l.bs)==0):=fun c=>by
  have:=(QA hs c).2;simp only [j9,qM,qB,addN,I0 this,if_true,Bool.true_and];cases bL (az (fB c l.bs))<;>simp
 simp only [go_sem,seval];refine aC.walk (S:=Unit) 3 [1] [32] (fun i _=>[(5,.int .i64 i)]) (fun i _=>[]) (fun i _=>∀ c < i,j9 l.bs (c:Nat)=true) () (by simp) ?_ ?_ ?_
 ·simp only [go_sem,seval]<;>simp
 ·intro c _ hc hdc hwc hC;have hdc:decide ((c:Int) < 3)=true:=hdc;have hTc:=hT c;rw [(QA hs c).1] at hTc;have hb:=hbal c
  have hbad:j9 l.bs c=false->l.okB=false:=fun hx=>by
   obtain rfl | rfl | rfl:c=0\/c=1\/c=2:=by omega
   ·have:j9 l.bs 0=false:=hx;simp [bz.okB,this]
   ·have:j9 l.bs 1=false:=hx;simp [bz.okB,this]
   ·have:j9 l.bs 2=false:=hx;simp [bz.okB,this]
  simp only [go_sem,seval,hdc];refine aa.gen [] [] true (by simp) ?_;simp only [go_sem,seval];refine aU.intro hTc ?_;cases b1:bL (az (fB c l.bs))
  ·simp only [go_sem,seval,b1,hbad (by rw [hb,b1];rfl)]
  cases b2:addN (fB c l.bs)==0
  ·simp only [go_sem,seval,b1,bne,b2,hbad (by rw [hb,b1,b2];rfl)]
  simp only [go_sem,seval,b1,bne,b2,hwc];refine ah.step () hc ?_ ?_
  ·intro k hk;rcases Nat.lt_or_ge k c with h | h
   ·exact hC k h
   ·obtain rfl:k=c:=by omega
    rw [hb,b1,b2];rfl
  ·simp only [go_sem,seval]
 ·intro _ hdc hC;have hdc:decide ((3:Int) < 3)=false:=hdc;have b0:j9 l.bs 0=true:=hC 0 (by omega);have b1:j9 l.bs 1=true:=hC 1 (by omega);have b2:j9 l.bs 2=true:=hC 2 (by omega);have e:l.okB=true:=by simp [bz.okB,hs,b0,b1,b2,h0]
  simp only [go_sem,seval,hdc,e]
theorem pX (w n:Int):Abs.Spec Tryz.prog 98 [] [.agg [.int .i64 w,.int .i64 n]] [] (.bool (pz w n)):=by
 have h1:=fO w;have h2:=bA n 1 8;refine bu 11 1 [.tmp 2] mixed Tryz.func98 ?_;simp only [go_sem,seval]
 repeat' with_reducible first|apply And.intro|exact .dq|refine aa.pure (by assumption) ?_|refine aa.pure (h1) ?_|refine aa.pure (h2) ?_|refine .aT (fun h=>?_) fun h=>?_|refine .aO (fun h=>?_) fun h=>?_|refine .aS (fun h=>?_) fun h=>?_|refine .split (fun h=>?_) fun h=>?_|refine .id ?_|refine ah.next (by omega) ?_ ?_|exact trivial|simp only [*,go_sem,seval]
 all_goals (simp_all [pz])
theorem Dy (a b c d:Int):Abs.Spec Tryz.prog 99 [] [.agg [.int .i64 a,.int .i64 b],.agg [.int .i64 c,.int .i64 d]] [] (.bool (Gs a b c d)):=by
 refine bu 24 2 [.tmp 4] mixed Tryz.func99 ?_;simp only [go_sem,seval]
 repeat' with_reducible first|apply And.intro|exact .dq|refine aa.pure (by assumption) ?_|refine .aT (fun h=>?_) fun h=>?_|refine .aO (fun h=>?_) fun h=>?_|refine .aS (fun h=>?_) fun h=>?_|refine .split (fun h=>?_) fun h=>?_|refine .id ?_|refine ah.next (by omega) ?_ ?_|exact trivial|simp only [*,go_sem,seval]
 all_goals (simp only [Gs];simp_all)
theorem qm (t:aL):Abs.Spec Tryz.prog 176 [] [.agg t.cells] [] (.bool (within t.bg 1 1048576&&within t.aX 1 1073741824)):=by
 have h1:=bA t.bg 1 1048576;have h2:=bA t.aX 1 1073741824;simp only [aL.cells];refine bu 11 1 [.tmp 2] mixed Tryz.func176 ?_;simp only [go_sem,seval]
 repeat' with_reducible first|apply And.intro|exact .dq|refine aa.pure (by assumption) ?_|refine aa.pure (h1) ?_|refine aa.pure (h2) ?_|refine .aT (fun h=>?_) fun h=>?_|refine .aO (fun h=>?_) fun h=>?_|refine .aS (fun h=>?_) fun h=>?_|refine .split (fun h=>?_) fun h=>?_|refine .id ?_|refine ah.next (by omega) ?_ ?_|exact trivial|simp only [*,go_sem,seval]
 all_goals (simp_all)
theorem tv (t:aL):Abs.Spec Tryz.prog 100 [] [.agg t.cells] [] (.bool t.okB):=by
 have h0:=qm t;have h1:=fO t.gp;have h2:=fO t.eC;have h3:=bA t.inst 1 8;simp only [aL.cells] at h0 |-;refine bu 27 1 [.tmp 2] mixed Tryz.func100 ?_;simp only [go_sem,seval]
 repeat' with_reducible first|apply And.intro|exact .dq|refine aa.pure (by assumption) ?_|refine aa.pure (h0) ?_|refine aa.pure (h1) ?_|refine aa.pure (h2) ?_|refine aa.pure (h3) ?_|refine .aT (fun h=>?_) fun h=>?_|refine .aO (fun h=>?_) fun h=>?_|refine .aS (fun h=>?_) fun h=>?_|refine .split (fun h=>?_) fun h=>?_|refine .id ?_|refine ah.next (by omega) ?_ ?_|exact trivial|simp only [*,go_sem,seval]
 all_goals first
  | (simp_all [aL.okB,pz,bne];done)
  | (rw [Bool.eq_iff_iff];simp_all [aL.okB,pz,bne])
theorem Pg (a b:aL):eJ a b = !decide (b.no<=a.no):=by
 rw [Bool.eq_iff_iff];simp [eJ]
theorem Q5 {n:Int} {l:List aB} (h:∀ p∈l,p.cU):∀ q∈cu n l,dj q:=by
 intro q hq;simp only [cu,List.mem_map,List.mem_filter] at hq;obtain ⟨p,⟨hp,_⟩,rfl⟩:=hq;exact (h p hp).2.2.1
theorem OZ {n:Int} {l:List aB} (h:mO aB.okB ga l=true):kY n l=(bL (az (cu n l))&&addN (cu n l)==0):=by
 have hr:right (cu n l)=true:=List.all_eq_true.2 fun q hq=>by
  simp only [cu,List.mem_map,List.mem_filter] at hq;obtain ⟨p,⟨hp,_⟩,rfl⟩:=hq;obtain ⟨i,hi,rfl⟩:=List.mem_iff_getElem.1 hp;have:=K3 h hi;simp only [aB.okB,within,cr,decide_eq_true_eq] at this;refine cg.2 ?_;omega
 simp only [kY,qM,qB,addN,hr,if_true,Bool.true_and];cases bL (az (cu n l))<;>simp
theorem iA (b:aF) (hl:b.small) (hr:∀ p∈b.qs,p.cU):Abs.Spec Tryz.prog 48 [] [.agg b.cells] [] (.bool b.okB):=by
 obtain ⟨hl1,hl2⟩:=hl;have hA:=fun n=>cE (cu n b.qs) (Q5 hr) (by have:=vY n b.qs;omega)
 have hN:=bA b.next 0 1099511627776
 have hNe:within b.next 0 1099511627776=(!decide (b.next < 0)&&!decide (1099511627776 < b.next)):=by rw [Bool.eq_iff_iff];simp [within]
 simp only [aF.cells];refine bu 156 1 [.tmp 2] mixed Tryz.func48 ?_;simp only [go_sem,seval];refine aa.pure hN ?_;cases b1:within b.next 0 1099511627776
 ·rw [hNe] at b1;have e:b.okB=false:=by simp only [aF.okB,b1,Bool.and_false]
  simp only [go_sem,seval,e]
 cases b2:decide (128 < (b.ts.length:Int))
 case true =>
  have e:b.okB=false:=by simp [aF.okB,b2]
  simp only [go_sem,seval,aJ,b2,e]
 have e:b.okB=(mO aB.okB ga b.qs&&(mO (eW b.next) eJ b.ts&&mK b.qs)):=by
  rw [hNe] at b1;simp only [aF.okB,b1,b2,Bool.not_false,Bool.and_true]
 rw [e];clear e hN hNe;simp only [go_sem,seval,aJ,b2];refine aC.count b.qs.length [1] [32] (fun i=>[(3,.int .i64 i)]) (fun i=>[]) (fun i=>∀ j < i,lz aB.okB ga b.qs j=true) (by simp) ?_ ?_
 ·simp only [go_sem,seval]<;>simp
 intro i hi hI;simp only [go_sem,seval,aJ];refine bH.aO (fun h=>?_) (fun h=>?_)
 ·have hi':i < b.qs.length:=by omega
  have hw:IntKind.wrap .i64 ((i:Int)+1)=((i+1:Nat):Int):=by rw [bn (by omega) (by omega)];omega
  have hm:=aG (c:=aB.cells) b.qs hi';have h1:=pX b.qs[i].who b.qs[i].inst;have h2:=dn b.qs[i].cost;have h3:=bA b.qs[i].bg (-1099511627776) 1099511627776;have e0:=nN (i:=i) hI;have e1:lz aB.okB ga b.qs i=false->(mO aB.okB ga b.qs&&(mO (eW b.next) eJ b.ts&&mK b.qs))=false:=fun hx=>by simp [sj hi' hx]
  simp only [aB.cells] at hm;clear hA;rcases Nat.eq_zero_or_pos i with rfl | hpos
  ·have hk:=gJ (ok:=aB.okB) (lt:=ga) hi';simp only [aB.okB] at hk;simp only [go_sem,seval,hm,aJ]
   repeat' with_reducible first|apply And.intro|exact .dq|refine aa.pure (by assumption) ?_|refine aa.pure (h1) ?_|refine aa.pure (h2) ?_|refine aa.pure (h3) ?_|refine .aT (fun h=>?_) fun h=>?_|refine .aO (fun h=>?_) fun h=>?_|refine .aS (fun h=>?_) fun h=>?_|refine .split (fun h=>?_) fun h=>?_|refine .id ?_|refine ah.next (by omega) ?_ ?_|exact trivial|simp only [*,go_sem,seval]
   all_goals first
    | omega
    | rfl
    | (refine e0 ?_;clear e0 e1;rw [hk];clear hk;simp_all;done)
    | (rw [e1 ?_];clear e0 e1;rw [hk];clear hk;simp_all;done)
  ·obtain ⟨j,rfl⟩:∃ j,i=j+1:=⟨i-1,by omega⟩
   have hj:j < b.qs.length:=by omega
   have hw1:IntKind.wrap .i64 (((j+1:Nat):Int)-1)=(j:Int):=by rw [bn (by omega) (by omega)];omega
   have hk:=gm (ok:=aB.okB) (lt:=ga) hi';simp only [aB.okB,ga] at hk;have hmj:=aG (c:=aB.cells) b.qs hj;have h4:=Dy b.qs[j].who b.qs[j].inst b.qs[j+1].who b.qs[j+1].inst;simp only [aB.cells] at hmj;simp only [go_sem,seval,hm,aJ]
   repeat' with_reducible first|apply And.intro|exact .dq|refine aa.pure (by assumption) ?_|refine aa.pure (h1) ?_|refine aa.pure (h2) ?_|refine aa.pure (h3) ?_|refine aa.pure (h4) ?_|refine .aT (fun h=>?_) fun h=>?_|refine .aO (fun h=>?_) fun h=>?_|refine .aS (fun h=>?_) fun h=>?_|refine .split (fun h=>?_) fun h=>?_|refine .id ?_|refine ah.next (by omega) ?_ ?_|exact trivial|simp only [*,go_sem,seval,hmj,aJ]
   all_goals first
    | omega
    | rfl
    | (refine e0 ?_;clear e0 e1;rw [hk];clear hk;simp_all;done)
    | (rw [e1 ?_];clear e0 e1;rw [hk];clear hk;simp_all;done)
 have hP:=mM (fun j (hj:j < b.qs.length)=>hI j (by omega));have hl1r:=fun n:Int=>OZ (n:=n) hP
 rw [hP,Bool.true_and];clear hI;simp only [go_sem,seval];refine aC.walk (S:=Unit) 8 [1] [32] (fun i _=>[(5,.int .i64 ((i:Int)+1))]) (fun i _=>[]) (fun i _=>∀ j < i,kY ((j:Int)+1) b.qs=true) () (by simp) ?_ ?_ ?_
 ·simp only [go_sem,seval]<;>simp
 ·intro c _ hc _ _ hC;obtain ⟨n,hn⟩:=aH ((c:Int)+1);have hd:decide (n<=8)=true:=decide_eq_true (by omega);have hw:IntKind.wrap .i64 (n+1)=((c+1:Nat):Int)+1:=by rw [bn (by omega) (by omega)];omega
  rw [<- hn];simp only [go_sem,seval,hd,aJ];refine aC.walk (S:=Unit) b.qs.length [1,5] [32] (fun i _=>[(7,.int .i64 i),(6,.ref 1696)]) (fun i _=>[(1696,.own 1 (ints (cu n (b.qs.take i))))]) (fun _ _=>True) () trivial ?_ ?_ ?_
  ·simp only [go_sem,seval]<;>simp [cu,ints]
  ·intro i _ hi hdi hwi _;have hm:=aG (c:=aB.cells) b.qs hi;have hs:=G3 n b.qs hi;have hlen:=vY n (b.qs.take i);have hlt:(b.qs.take i).length=i:=by simp;omega
   have hli:(i:Int) < (b.qs.length:Int):=by omega
   simp only [aB.cells] at hm;simp only [go_sem,seval,hdi,hm,aJ];(with_reducible and_intros)<;>first|exact .dq|omega|skip
   cases hb:b.qs[i].inst==n
   ·simp only [hb,fZ,if_false] at hs;simp only [go_sem,seval,hwi];refine ah.step () hi trivial ?_;simp only [go_sem,seval,hs]
   ·simp only [hb,if_true] at hs;simp only [go_sem,seval,hwi,av,aJ,hm];(with_reducible and_intros)<;>first|exact .dq|omega|skip
    refine ah.step () hi trivial ?_;simp only [go_sem,seval,hs]<;>simp [ints]
  ·intro _ hdx _
   have hbad:kY n b.qs=false->mK b.qs=false:=fun hx=>by
    cases hh:mK b.qs
    ·rfl
    ·have:=List.all_eq_true.1 hh c (List.mem_range.2 hc);rw [<- hn,hx] at this;cases this
   have hr1:=hl1r n;simp only [go_sem,seval,hdx,aJ,List.take_length];refine aa.gen [] [] true (by simp) ?_;simp only [go_sem,seval];refine aU.intro (hA n) ?_;cases b3:bL (az (cu n b.qs))
   ·have:=hbad (by rw [hr1,b3];rfl);simp only [go_sem,seval,b3,this,Bool.and_false]
   cases b4:addN (cu n b.qs)==0
   ·have:=hbad (by rw [hr1,b3,b4];rfl);simp only [go_sem,seval,bne,b3,b4,this,Bool.and_false]
   simp only [go_sem,seval,bne,b3,b4,hw];refine ah.step () hc ?_ ?_
   ·intro j hj;rcases Nat.lt_or_ge j c with h | h
    ·exact hC j h
    ·obtain rfl:j=c:=by omega
     rw [<- hn,hr1,b3,b4];rfl
   ·simp only [go_sem,seval]
 ·intro _ _ hC;have hlv:mK b.qs=true:=List.all_eq_true.2 fun j hj=>hC j (List.mem_range.1 hj)
  rw [hlv,Bool.and_true];clear hC hlv hl1r hA;simp only [go_sem,seval];refine aC.count b.ts.length [1] [32] (fun i=>[(10,.int .i64 i)]) (fun i=>[]) (fun i=>∀ j < i,lz (eW b.next) eJ b.ts j=true) (by simp) ?_ ?_
  ·simp only [go_sem,seval]<;>simp
  intro i hi hI;simp only [go_sem,seval,aJ];refine bH.aO (fun h=>?_) (fun h=>?_)
  ·have hi':i < b.ts.length:=by omega
   have hw:IntKind.wrap .i64 ((i:Int)+1)=((i+1:Nat):Int):=by rw [bn (by omega) (by omega)];omega
   have hm:=aG (c:=aL.cells) b.ts hi';have h1:=tv b.ts[i];have h2:=bA b.ts[i].no 1 b.next
   have e0:=nN (i:=i) hI;have e1:lz (eW b.next) eJ b.ts i=false->mO (eW b.next) eJ b.ts=false:=fun hx=>sj hi' hx
   have hte:eW b.next b.ts[i]=(b.ts[i].okB&&within b.ts[i].no 1 b.next):=by rw [Bool.eq_iff_iff];simp [eW,within]
   simp only [aL.cells] at hm h1;rcases Nat.eq_zero_or_pos i with rfl | hpos
   ·have hk:=gJ (ok:=eW b.next) (lt:=eJ) hi';rw [hte] at hk;clear hte;simp only [go_sem,seval,hm,aJ]
    repeat' with_reducible first|apply And.intro|exact .dq|refine aa.pure (by assumption) ?_|refine aa.pure (h1) ?_|refine aa.pure (h2) ?_|refine .aT (fun h=>?_) fun h=>?_|refine .aO (fun h=>?_) fun h=>?_|refine .aS (fun h=>?_) fun h=>?_|refine .split (fun h=>?_) fun h=>?_|refine .id ?_|refine ah.next (by omega) ?_ ?_|exact trivial|simp only [*,go_sem,seval]
    all_goals first
     | omega
     | rfl
     | (refine e0 ?_;clear e0 e1;rw [hk];clear hk;simp_all;done)
     | (rw [e1 ?_];clear e0 e1;rw [hk];clear hk;simp_all;done)
   ·obtain ⟨j,rfl⟩:∃ j,i=j+1:=⟨i-1,by omega⟩
    have hj:j < b.ts.length:=by omega
    have hw1:IntKind.wrap .i64 (((j+1:Nat):Int)-1)=(j:Int):=by rw [bn (by omega) (by omega)];omega
    have hk:=gm (ok:=eW b.next) (lt:=eJ) hi';rw [hte,Pg] at hk;clear hte;have hmj:=aG (c:=aL.cells) b.ts hj;simp only [aL.cells] at hmj;simp only [go_sem,seval,hm,aJ]
    repeat' with_reducible first|apply And.intro|exact .dq|refine aa.pure (by assumption) ?_|refine aa.pure (h1) ?_|refine aa.pure (h2) ?_|refine .aT (fun h=>?_) fun h=>?_|refine .aO (fun h=>?_) fun h=>?_|refine .aS (fun h=>?_) fun h=>?_|refine .split (fun h=>?_) fun h=>?_|refine .id ?_|refine ah.next (by omega) ?_ ?_|exact trivial|simp only [*,go_sem,seval,hmj,aJ]
    all_goals first
     | omega
     | rfl
     | (refine e0 ?_;clear e0 e1;rw [hk];clear hk;simp_all;done)
     | (refine e0 ?_;clear e0 e1;rw [hk];clear hk;simp_all;omega)
     | (rw [e1 ?_];clear e0 e1;rw [hk];clear hk;simp_all;done)
     | (rw [e1 ?_];clear e0 e1;rw [hk];clear hk;simp_all;omega)
  ·have hT:=mM (fun j (hj:j < b.ts.length)=>hI j (by omega));simp only [go_sem,seval,hT]
theorem lg (r:aq) (n:Int) (hl:r.small):Abs.Spec Tryz.prog 95 [] [.agg r.cells,.int .i64 n] [] (.bI [.agg (fX au.a n ⟨0,0,0,0⟩ r.xs).cells,.bool (decide (0<=iJ au.a n r.xs))]):=by
 obtain ⟨l1,l2,l3⟩:=hl;simp only [aq.cells];refine bu 28 2 [.cell 4 166,.tmp 5] mixed Tryz.func95 ?_;simp only [go_sem,seval,aJ];refine aC.walk (S:=Unit) r.xs.length [1,2,4] [48,80] (fun i _=>[(6,.int .i64 i)]) (fun i _=>[]) (fun i _=>∀ j (hj:j < r.xs.length),j < i->r.xs[j].a≠n) () (by intros;omega) ?_ ?_ ?_
 ·simp only [go_sem,seval]<;>simp
 ·intro i _ hi hdi hw hI;have hm:=aG (c:=au.cells) r.xs hi;have hlt:(i:Int) < (r.xs.length:Int):=by omega
  simp only [au.cells] at hm |-;simp only [go_sem,seval,aJ,hdi,hm];(with_reducible and_intros)<;>first|exact .dq|omega|skip
  cases hb:r.xs[i].a==n
  ·have hb2:r.xs[i].a≠n:=by simpa using hb
   simp only [go_sem,seval,hw];refine ah.step () hi ?_ ?_
   ·intro j hj hji;rcases Nat.lt_or_ge j i with h | h
    ·exact hI j hj h
    ·obtain rfl:j=i:=by omega
     exact hb2
   ·simp only [go_sem,seval]
  ·have hb2:r.xs[i].a=n:=by simpa using hb
   obtain ⟨g1,g2⟩:=jg (z:=(⟨0,0,0,0⟩:au)) hi hI hb2;have g3:decide (0<=(i:Int))=true:=decide_eq_true (by omega);rw [g1,g2,g3];simp only [go_sem,seval,hm,aJ];(with_reducible and_intros)<;>first|exact .dq|omega|skip
 ·intro _ hdx hI;obtain ⟨g1,g2⟩:=gK (z:=(⟨0,0,0,0⟩:au)) (fun j hj=>hI j hj hj);rw [g1,g2];simp only [go_sem,seval,aJ,hdx,au.cells]
theorem pJ {a:aD} {bs:List bC} (h:∀ b∈bs,b.cU):dj (fj a bs):=by
 induction bs with
 | nil=>exact ⟨by simp [fj],by simp [fj]⟩
 | cons b r ih =>
  simp only [fj];split
  ·exact (h b (by simp)).2.2.2
  ·exact ih fun b hb=>h b (by simp [hb])
theorem aeQ (a:au) (n:Int):bL (a.V n)=true:=by
 simp only [au.V];split
 ·unfold Fv;split
  ·decide
  ·split
   ·assumption
   ·decide
 ·decide
theorem TK (r:aq) (w c:Int) (ps:List dS):∀ n∈gD r w c ps,bL n=true:=by
 intro n hn;simp only [gD,List.mem_map] at hn;obtain ⟨x,_,rfl⟩:=hn;exact aeQ _ _
theorem Cd {l:bz} (h:l.okB=true) (a:aD):bL (fj a l.bs)=true:=by
 have h1:=(aaV h).2;clear h;generalize l.bs=bs at h1
 induction bs with
 | nil=>rfl
 | cons b r ih =>
  simp only [fj];split
  ·exact h1 b (by simp)
  ·exact ih fun z hz=>h1 z (by simp [hz])
theorem oS {n:Int} (h:bL n=true):dj n:=by have:=cg.1 h;exact ⟨by omega,by omega⟩
theorem Hw (l:bz) (r:aq) (ps:List dS) (w c:Int) (hl:l.bs.length < 2 ^ 29) (hr:r.small) (hp:ps.length < 2 ^ 29) (hb:∀ b∈l.bs,b.cU) :
  Abs.Spec Tryz.prog 47 [] [.agg l.cells,.agg r.cells,.sl 3 (pl ps),.int .i64 w,.int .i64 c] [] (.bI [.int .i64 (tG l r ps w c),.int .i64 (vP l r ps w c)]):=by
 have h1:=iL l (by omega) hb;have h2:=dL r hr;have h3:=nE ps (by omega);have h4:=gV l ⟨2,w,c⟩ (by omega);have h5:=fun n=>lg r n hr
 simp only [bz.cells,aD.cells] at h1 h4 |-;simp only [aq.cells] at h2 h5 |-;refine bu 97 5 [.tmp 10,.tmp 11] mixed Tryz.func47 ?_;simp only [go_sem,seval];refine aa.pure h1 ?_;cases b1:l.okB
 ·have e:o9 l r ps=14:=by simp [o9,b1]
  have e1:vP l r ps w c=14:=by simp [vP,e]
  have e2:tG l r ps w c=0:=by simp [tG,e]
  simp only [go_sem,seval,e1,e2]
 simp only [go_sem,seval];refine aa.pure h2 ?_;cases b2:r.okB
 ·have e:o9 l r ps=14:=by simp [o9,b2]
  have e1:vP l r ps w c=14:=by simp [vP,e]
  have e2:tG l r ps w c=0:=by simp [tG,e]
  simp only [go_sem,seval,e1,e2]
 simp only [go_sem,seval];refine aa.pure h3 ?_;cases b3:gj ps
 ·have e:o9 l r ps=14:=by simp [o9,b3]
  have e1:vP l r ps w c=14:=by simp [vP,e]
  have e2:tG l r ps w c=0:=by simp [tG,e]
  simp only [go_sem,seval,e1,e2]
 have e:o9 l r ps=0:=by simp [o9,b1,b2,b3]
 have e1:vP l r ps w c=if fE r w c ps != 0 then fE r w c ps else qM (fj ⟨2,w,c⟩ l.bs :: gD r w c ps):=by simp [vP,e]
 have e2:tG l r ps w c=if fE r w c ps != 0 then 0 else qB (fj ⟨2,w,c⟩ l.bs :: gD r w c ps):=by simp [tG,e]
 rw [e1,e2];clear e1 e2 e;simp only [go_sem,seval];refine aa.pure h4 ?_;have hoin:=Cd b1 ⟨2,w,c⟩;obtain ⟨o,ho⟩:=aH (fj ⟨2,w,c⟩ l.bs);rw [<- ho] at hoin |-;simp only [go_sem,seval];refine aC.walk (S:=Unit) ps.length [2,3,4,6] [112] (fun i _=>[(13,.int .i64 i),(12,.ref 1424)]) (fun i _=>[(1424,.own 1 (ints (o :: gD r w c (ps.take i))))]) (fun i _=>fE r w c (ps.drop i)=fE r w c ps) () rfl ?_ ?_ ?_
 ·simp only [go_sem,seval]<;>simp [gD,ints]
 ·intro i _ hi' hdi hw hI;have hstep:=EN r w c ps hi';have hA:=h5 ps[i].bG;have hvl:=vF r w c (ps.take i);have htl:(ps.take i).length=i:=by simp;omega
  have hli:(i:Int) < (ps.length:Int):=by omega
  rw [Ka hi'] at hI;simp only [fE] at hI;obtain ⟨a,ha⟩:=aH (C9 r ps[i]);have ha':fX au.a ps[i].bG ⟨0,0,0,0⟩ r.xs=a:=ha.symm;rw [ha'] at hA;simp only [Ls,<- ha] at hI hstep;have hv:=xu a ps[i].units;simp only [au.cells] at hA hv;clear h1 h2 h3 h4 h5;simp only [go_sem,seval,hdi,nq ps hi'];(with_reducible and_intros)<;>first|exact .dq|omega|skip
  refine aa.pure hA ?_;cases p1:decide (0<=iJ au.a ps[i].bG r.xs)
  ·simp only [p1,Bool.false_and,fZ,if_false] at hI hstep;simp only [go_sem,seval,p1,hw];(with_reducible and_intros)<;>first|exact .dq|omega|skip
   refine ah.step () hi' hI ?_;simp only [go_sem,seval,hstep]
  cases p2:ps[i].who==w
  ·simp only [p1,p2,Bool.false_and,Bool.true_and,fZ,if_false] at hI hstep;simp only [go_sem,seval,p1,bne,p2,hw,nq ps hi'];(with_reducible and_intros)<;>first|exact .dq|omega|skip
   refine ah.step () hi' hI ?_;simp only [go_sem,seval,hstep]
  cases p3:a.b==c
  ·simp only [p1,p2,p3,Bool.false_and,Bool.and_false,Bool.true_and,fZ,if_false] at hI hstep;simp only [go_sem,seval,p1,bne,p2,p3,hw,nq ps hi'];(with_reducible and_intros)<;>first|exact .dq|omega|skip
   refine ah.step () hi' hI ?_;simp only [go_sem,seval,hstep]
  simp only [p1,p2,p3,Bool.true_and,Bool.and_self,if_true] at hI hstep;simp only [go_sem,seval,p1,bne,p2,p3,nq ps hi'];(with_reducible and_intros)<;>first|exact .dq|omega|skip
  refine aa.pure hv ?_;cases p4:a.E ps[i].units==0
  ·have p4':(a.E ps[i].units != 0)=true:=by simp [bne,p4]
   simp only [p4',if_true] at hI;have hF:fE r w c ps=a.E ps[i].units:=hI.symm;simp only [go_sem,seval,bne,p4,hF,Bool.not_false,if_true]
  ·have p4':(a.E ps[i].units != 0)=false:=by simp [bne,p4]
   simp only [p4',fZ,if_false] at hI;simp only [go_sem,seval,bne,p4,hw,av];(with_reducible and_intros)<;>first|exact .dq|omega|skip
   refine ah.step () hi' hI ?_;simp only [go_sem,seval,hstep]<;>simp [ints]
 ·intro _ hdx hI;simp only [List.drop_length,fE] at hI;have hlen:=vF r w c ps
  have hall:∀ n∈o :: gD r w c ps,bL n=true:=fun n hn=>by
   rcases List.mem_cons.1 hn with rfl | hn
   ·exact hoin
   ·exact TK r w c ps n hn
  have hs:=cE (o :: gD r w c ps) (fun n hn=>oS (hall n hn)) (by simp;omega);have hright:=I0 hall;rw [<- hI];simp only [qM,qB,hright,if_true,Bool.true_and];simp only [go_sem,seval,hdx,List.take_length];refine aa.gen [] [] true (by simp) ?_;simp only [go_sem,seval];refine aU.intro hs ?_;cases hin:bL (az (o :: gD r w c ps))
  ·simp only [go_sem,seval,hin]<;>simp
  ·simp only [go_sem,seval,hin,addN]<;>simp
theorem qD (s:af) (w c:Int) (hs:s.fit) (hr:s.cU) (hl:s.aW.bs.length < 2 ^ 29) (hp:s.ps.length < 2 ^ 29):Abs.Spec Tryz.prog 21 [] [.agg s.cells,.int .i64 w,.int .i64 c] [] (.bI [.int .i64 (Hg s w c),.int .i64 (Rt s w c)]):=by
 obtain ⟨hro,hb,_,_⟩:=hs;have h1:=Hw s.aW s.aj s.ps w c hl hro hp hr.bs;have h2:=iA s.book hb hr.qs;have h3:=tN s.aj w c s.book.qs hro hb.2;simp only [bz.cells,aq.cells,aF.cells] at h1 h2 h3;simp only [af.cells,Hg,Rt];refine bu 63 3 [.tmp 6,.tmp 7] mixed Tryz.func21 ?_;simp only [go_sem,seval];refine aa.pure h1 ?_
 by_cases e1:vP s.aW s.aj s.ps w c=0
 case neg =>
  have b1:(vP s.aW s.aj s.ps w c==0)=false:=by simpa using e1
  simp only [go_sem,seval,bne,b1,if_neg e1]
 have hin1:=(ad4 e1).2.2.2;have hin3:=yA s.aj w c s.book.qs;have b1:(vP s.aW s.aj s.ps w c==0)=true:=by simpa using e1
 simp only [go_sem,seval,bne,b1,if_pos e1];refine aa.pure h2 ?_;cases b2:s.book.okB
 ·simp only [go_sem,seval,b2]
 simp only [go_sem,seval,b2];refine aa.pure h3 ?_
 by_cases e3:pG s.aj w c s.book.qs=0
 case neg =>
  have b3:(pG s.aj w c s.book.qs==0)=false:=by simpa using e3
  simp only [go_sem,seval,bne,b3,if_neg e3]
 have b3:(pG s.aj w c s.book.qs==0)=true:=by simpa using e3
 simp only [if_pos e3];obtain ⟨M,hM⟩:=aH (pI s.aj w c s.book.qs);obtain ⟨C,hC⟩:=aH (tG s.aW s.aj s.ps w c);rw [<- hC] at hin1 |-;rw [<- hM] at hin3 |-;have i1:=cg.1 hin1;have i3:=cg.1 hin3;have hw:IntKind.wrap .i64 (0-C) = -C:=by rw [bn (by omega) (by omega)];omega
 have hA:=cE [M,-C] (by intro n hn;simp only [List.mem_cons,List.not_mem_nil,or_false] at hn;rcases hn with rfl | rfl<;>exact ⟨by omega,by omega⟩) (by simp);have hsum:az [M,-C]=M-C:=by simp [az];omega
 simp only [addN,hsum,ints,List.map_cons,List.map_nil] at hA;simp only [go_sem,seval,bne,b3,hw];refine aa.gen [] [] true (by simp) ?_;simp only [go_sem,seval];refine aU.intro hA ?_;simp only [zJ,xE,hin1,hin3,Bool.true_and,Bool.and_self,if_true];cases hd:bL (M-C)
 ·by_cases e4:M<=C
  ·have d4:decide (C < M)=false:=decide_eq_false (by omega);simp only [go_sem,seval,hd,d4,if_pos e4,fZ,if_false]<;>simp
  ·have d4:decide (C < M)=true:=decide_eq_true (by omega);simp only [go_sem,seval,hd,d4,if_neg e4,fZ,if_false]
 ·by_cases e4:M<=C
  ·have hmax:max (M-C) 0=0:=by omega
   simp only [go_sem,seval,hd,hmax,if_pos e4]
  ·have hmax:max (M-C) 0=M-C:=by omega
   simp only [go_sem,seval,hd,hmax,if_neg e4]
deriving instance DecidableEq for ak,ay,au,bC,aD
theorem Gv (a b:aD):Abs.Spec Tryz.prog 18 [] [.agg a.cells,.agg b.cells] [] (.bool (decide (a=b))):=by
 have h:=HO a b;have e:a.same b=decide (a=b):=by rw [Bool.eq_iff_iff,TD];cases a;cases b;simp
 rwa [e] at h
def eY.ch (x:eY):Nat->Int
 | 0=>x.c0 | 1=>x.c1 | 2=>x.c2 | 3=>x.c3 | _=>x.c4
end Go.Proofs.YtnkobepdbkmedaaGreatDoor
