/- The reference's margin, and what follows. No theorem of a claim. -/
import Derived.Test.YtgnhdbdipfncgaaGreatKC
import Derived.Test.YtgnhdbdipfncgaaGreatKA
set_option linter.unusedSimpArgs false
set_option linter.unusedVariables false
set_option maxHeartbeats 4000000
set_option maxRecDepth 16000
namespace Go.Proofs.YtgnhdbdipfncgaaGreat
open Go.Abs
theorem qtyB_eq (p:PosV):within p.qty (-1099511627776) 1099511627776=qtyB p:=by
 rw [Bool.eq_iff_iff];simp [within,qtyB]
theorem lossF_eq (j:Nat) (p:PieceV):-p.q*(p.i.mult*p.i.sh j)=lossF j p:=by rw [lossF,Int.mul_assoc]
theorem refLosses_spec (r:RollV) (w c:Int) (qs:List PosV) (hr:r.small) (hq:qs.length < 2 ^ 30):Abs.Spec Tryz.prog 321 [] [.agg r.cells,.int .i64 w,.int .i64 c,.sl 4 (qs.map PosV.cells)] [] (.tup [.agg (losB r w c qs),.int .i64 (losE r w c qs)]):=by
 have h2:=refRoll_spec r hr;have h5:=fun n=>refFindInst_spec r n hr
 have hz0:=lossBox_zero [];simp only [RollV.cells] at h2 h5 |-;refine sgo 115 4 [.cell 8 44,.tmp 9] mixed Tryz.func321 ?_;simp only [go_sem,seval];refine CallN.pure h2 ?_;cases b2:r.okB
 ·have e:pcE r qs=14:=by simp [pcE,b2]
  have e1:losE r w c qs=14:=by simp [losE,e]
  have e2:losB r w c qs=lossBox [] 0:=by simp [losB,e1]
  rw [e1,e2,hz0];simp only [go_sem,seval]
 simp only [go_sem,seval,lml];refine LoopK.walk (S:=Unit) qs.length [1,2,3,4,8,10] [80,144,176] (fun i _=>[(11,.int .i64 i)]) (fun i _=>[]) (fun i _=>∀ j (hj:j < qs.length),j < i->qtyB qs[j]=true) () (by intros;omega) ?_ ?_ ?_
 ·simp only [go_sem,seval]<;>simp
 ·intro i _ hi hdi hwi hI;have hm:=map_at (c:=PosV.cells) qs hi;have hv:=within15_spec qs[i].qty (-1099511627776) 1099511627776;rw [qtyB_eq] at hv;simp only [PosV.cells] at hm;simp only [go_sem,seval,lml,hdi,hm];(with_reducible and_intros)<;>first|exact .dq|omega|skip
  refine CallN.pure hv ?_;cases hb:qtyB qs[i]
  ·have:qs.all qtyB=false:=by
    cases hc:qs.all qtyB
    ·rfl
    ·rw [List.all_eq_true.1 hc _ (List.getElem_mem hi)] at hb;cases hb
   have e:pcE r qs=3:=by simp [pcE,b2,this]
   have e1:losE r w c qs=3:=by simp [losE,e]
   have e2:losB r w c qs=lossBox [] 0:=by simp [losB,e1]
   rw [e1,e2,hz0];simp only [go_sem,seval]
  ·simp only [go_sem,seval,hwi];refine RoundK.step () hi ?_ ?_
   ·intro j hj hji;rcases Nat.lt_or_ge j i with h | h
    ·exact hI j hj h
    ·obtain rfl:j=i:=by omega
     exact hb
   ·simp only [go_sem,seval]
 intro _ hdx hI
 have hall:qs.all qtyB=true:=List.all_eq_true.2 fun p hp=>by
  obtain ⟨j,hj,rfl⟩:=List.mem_iff_getElem.1 hp;exact hI j hj hj
 have hE:pcE r qs=0:=by simp [pcE,b2,hall]
 have hpo:=piece_ok (w:=w) (c:=c) hE;have hpl:=pcL_len r w c qs;have e2:losE r w c qs=if lossBad (pcL r w c qs) then 1 else 0:=by simp [losE,hE]
 simp only [losB,e2];clear e2 hI;have hz:=lossBox_zero (pcL r w c qs);simp only [go_sem,seval,lml,hdx];clear hdx;refine LoopK.walk (S:=Unit) 6 [1,2,3,4,8,10] [80,144] (fun i _=>[(12,.int .i64 i)]) (fun i _=>[(176,.box (lossBox (pcL r w c qs) i))]) (fun i _=>∀ j < i,inR (lossP (pcL r w c qs) j)=true) () (by intros;omega) ?_ ?_ ?_
 ·simp only [go_sem,seval,hz]<;>simp
 ·intro j _ hj hdj hwj hI;have hdj:decide ((j:Int) < 6)=true:=hdj;have hall2:=lossAll hpo j (by omega);have hset:=lossBox_set (pcL r w c qs) hj;obtain ⟨B,hB⟩:=nmE (lossBox (pcL r w c qs) j);have hBl:B.length=6:=by rw [hB];rfl
  have hleaf1:∀ d∈lossBox (pcL r w c qs) (j+1),leafB d=true:=by simp [lossBox,lossOut,leafB]
  have hleaf:∀ d∈B,leafB d=true:=by rw [hB];simp [lossBox,lossOut,leafB]
  rw [<- hB] at hset |-;simp only [go_sem,seval,hdj];refine LoopK.walk (S:=Unit) qs.length [1,2,3,4,8,10,12] [80,144,176] (fun i _=>[(14,.int .i64 i),(13,.ref 1504)]) (fun i _=>[(1504,.own 2 (wds ((pcL r w c (qs.take i)).map (lossF j))))]) (fun i _=>True) () trivial ?_ ?_ ?_
  ·simp only [go_sem,seval]<;>simp [wds,pcL,leDL_leaf hleaf,killL_leaf hleaf]
  ·intro i _ hi hdi hwi _;have hm:=map_at (c:=PosV.cells) qs hi;have hs:=pcL_step r w c qs hi;have hlen:=pcL_len r w c (qs.take i);have hlt:(qs.take i).length=i:=by simp;omega
   have hA:=h5 qs[i].inst;obtain ⟨x,hx⟩:=nmE (instOf r qs[i].inst);have hxok:instIs r qs[i].inst=true->x.ok=true:=fun h=>by rw [hx];exact instOf_ok b2 h
   have hqty:=List.all_eq_true.1 hall qs[i] (List.getElem_mem hi);have hwl:(wds ((pcL r w c (qs.take i)).map (lossF j))).length<=i:=by simp [wds];omega
   have hlI:(i:Int) < (qs.length:Int):=by omega
   simp only [pcHit,<- hx] at hs;rw [<- hx] at hA;simp only [PosV.cells] at hm;simp only [InstV.cells] at hA;simp only [go_sem,seval,lml,hdi,hm];(with_reducible and_intros)<;>first|exact .dq|omega|skip
   refine CallN.pure hA ?_;cases p1:instIs r qs[i].inst
   ·simp only [p1,Bool.false_and,bfe,if_false] at hs;simp only [go_sem,seval,lml,p1,hwi];(with_reducible and_intros)<;>first|exact .dq|omega|skip
    refine RoundK.step () hi trivial ?_;simp only [go_sem,seval,hs]<;>simp [leDL_leaf hleaf,killL_leaf hleaf]
   cases p2:qs[i].who==w
   ·simp only [p1,p2,Bool.false_and,Bool.true_and,bfe,if_false] at hs;simp only [go_sem,seval,lml,hm,p1,p2,hwi];(with_reducible and_intros)<;>first|exact .dq|omega|skip
    refine RoundK.step () hi trivial ?_;simp only [go_sem,seval,hs]<;>simp [leDL_leaf hleaf,killL_leaf hleaf]
   cases p3:x.cur==c
   ·simp only [p1,p2,p3,Bool.and_false,Bool.true_and,bfe,if_false] at hs;simp only [go_sem,seval,lml,hm,p1,p2,p3,hwi];(with_reducible and_intros)<;>first|exact .dq|omega|skip
    refine RoundK.step () hi trivial ?_;simp only [go_sem,seval,hs]<;>simp [leDL_leaf hleaf,killL_leaf hleaf]
   simp only [p1,p2,p3,Bool.and_self,if_true] at hs;have hk:=hxok p1;obtain ⟨⟨m1,m2⟩,-⟩:=inst_range hk;have hsr:=sh_range hk j;simp only [qtyB,bae,Bool.not_eq_true',decide_eq_false_iff_not] at hqty;have hsa:=sh_at ⟨x,qs[i].qty⟩ hj;have r1:=mul_range (a:=x.mult) (b:=x.sh j) (A:=1024) (B:=1073741824) (by omega) hsr;have r1:-1099511627776<=x.mult*x.sh j/\x.mult*x.sh j<=1099511627776:=r1;have w1:IntKind.wrap .i64 (0-qs[i].qty) = -qs[i].qty:=by rw [wr64 (by omega) (by omega)];omega
   have w2:IntKind.wrap .i64 (x.mult*x.sh j)=x.mult*x.sh j:=wr64 (by omega) (by omega);have ht:=refTimesI (-qs[i].qty) (x.mult*x.sh j) ⟨by omega,by omega⟩ ⟨by omega,by omega⟩;have hF:-qs[i].qty*(x.mult*x.sh j)=lossF j ⟨x,qs[i].qty⟩:=lossF_eq j ⟨x,qs[i].qty⟩;rw [hF] at ht;simp only [wd] at ht
   have hix2:(List.drop (6+j*1) x.cells).headD .undef=.int .i64 (x.sh j):=by
    rcases j with _ | _ | _ | _ | _ | _ | j<;>first | rfl | omega
   simp only [InstV.cells] at hix2;simp only [go_sem,seval,lml,hm,p1,p2,p3,hwi,w1,hix2,w2];(with_reducible and_intros)<;>first|exact .dq|omega|skip
   refine CallN.pure ht ?_;simp only [go_sem,seval,hwi];(with_reducible and_intros)<;>first|exact .dq|omega|skip
   refine RoundK.step () hi trivial ?_;simp only [go_sem,seval,hs]<;>simp [wd,wds,leDL_leaf hleaf,killL_leaf hleaf]
  ·intro _ hdx _;have hs:=refSum_spec ((pcL r w c qs).map (lossF j)) (by simp;omega) hall2.1;have hI2:=refInt_spec (lossP (pcL r w c qs) j);have e:sumL ((pcL r w c qs).map (lossF j))=lossP (pcL r w c qs) j:=rfl;rw [e,hall2.2,if_pos rfl] at hs;obtain ⟨S,hS⟩:=nmE (lossP (pcL r w c qs) j);rw [<- hS] at hs hI2 hset
   have hgood:inR S=true->∀ k < j+1,inR (lossP (pcL r w c qs) k)=true:=fun hx k hk=>by
    rcases Nat.lt_or_ge k j with h | h
    ·exact hI k h
    ·obtain rfl:k=j:=by omega
     rw [<- hS];exact hx
   have hbad:inR S=false->lossBad (pcL r w c qs)=true:=fun hx=>by
    simp only [lossBad,List.any_eq_true,List.mem_range];exact ⟨j,hj,by rw [<- hS,hx];rfl⟩
   simp only [wd] at hs hI2;simp only [go_sem,seval,lml,hdx,List.take_length];refine CallN.gen [] [] true (by simp) ?_;simp only [go_sem,seval];refine CallG.intro hs ?_;simp only [go_sem,seval];refine CallN.pure hI2 ?_;cases hi:inR S
   ·have hb:=hbad hi;simp only [go_sem,seval,hi,hb,lossBox,lossOut]
   ·simp only [go_sem,seval] at hset;simp only [go_sem,seval,hi,hset,hwj];(with_reducible and_intros)<;>first|exact .dq|omega|skip
    refine RoundK.step () hj (hgood hi) ?_;simp only [go_sem,seval];exact leDL_leaf hleaf1
 ·intro _ hdx hI;have hdx:decide ((6:Int) < 6)=false:=hdx
  have hb:lossBad (pcL r w c qs)=false:=by
   simp only [lossBad,List.any_eq_false,List.mem_range];intro k hk;simp [hI k hk]
  simp only [go_sem,seval,hdx,hb,lossBox,lossOut]
theorem refMargin_spec (r:RollV) (w c:Int) (qs:List PosV) (hr:r.small) (hq:qs.length < 2 ^ 30):Abs.Spec Tryz.prog 295 [] [.agg r.cells,.int .i64 w,.int .i64 c,.sl 4 (qs.map PosV.cells)] [] (.tup [.int .i64 (marN r w c qs),.int .i64 (marE r w c qs)]):=by
 have hL:=refLosses_spec r w c qs hr hq;have h5:=fun n=>refFindInst_spec r n hr
 simp only [RollV.cells] at hL h5 |-;refine sgo 114 4 [.tmp 8,.tmp 9] mixed Tryz.func295 ?_;simp only [go_sem,seval];refine CallN.pure hL ?_
 by_cases hE:losE r w c qs=0
 case neg =>
  have b1:(losE r w c qs != 0)=true:=by simpa using hE
  have e1:marE r w c qs=losE r w c qs:=by simp [marE,hE]
  have e2:marN r w c qs=0:=by simp [marN,hE]
  have e3:losB r w c qs=lossBox [] 0:=by simp [losB,hE]
  rw [e1,e2,e3,lossBox_zero];simp only [go_sem,seval,b1]
 obtain ⟨hpc,hbad⟩:=losE_zero hE;have hpo:=piece_ok (w:=w) (c:=c) hpc;have hpl:=pcL_len r w c qs
 have hko:r.okB=true/\qs.all qtyB=true:=by
  unfold pcE at hpc;split at hpc
  ·rename_i h1;split at hpc
   ·rename_i h2;exact ⟨h1,h2⟩
   ·cases hpc
  ·cases hpc
 have e2:marE r w c qs=if inR (marT (pcL r w c qs)) then 0 else 1:=by simp [marE,hE]
 have e3:marN r w c qs=if inR (marT (pcL r w c qs)) then marT (pcL r w c qs) else 0:=by simp [marN,hE]
 have e4:losB r w c qs=[.int .i64 (lossP (pcL r w c qs) 0),.int .i64 (lossP (pcL r w c qs) 1),.int .i64 (lossP (pcL r w c qs) 2),.int .i64 (lossP (pcL r w c qs) 3),.int .i64 (lossP (pcL r w c qs) 4),.int .i64 (lossP (pcL r w c qs) 5)]:=by simp [losB,hE,lossBox,lossOut]
 rw [e2,e3,e4];clear e2 e3 e4 hL;have hin:=lossBad_no hbad;obtain ⟨T,hT⟩:=nmE (marT (pcL r w c qs));rw [<- hT];simp only [marT] at hT;obtain ⟨L,hLd⟩:=nmE (lossP (pcL r w c qs));rw [<- hLd] at hin hT |-;simp only [go_sem,seval,hE];refine LoopK.walk (S:=Unit) 6 [1,2,3,4,10] [80,176] (fun i _=>[(13,.int .i64 i),(12,.int .i64 (mostU L i))]) (fun i _=>[]) (fun i _=>True) () trivial ?_ ?_ ?_
 ·simp only [go_sem,seval]<;>simp [mostU]
 ·intro i _ hi hdi hwi _;have hdi:decide ((i:Int) < 6)=true:=hdi;have hsx:=six_at L hi;simp only [go_sem,seval,hdi,hsx,hwi];(with_reducible and_intros)<;>first|exact .dq|omega|skip
  refine RoundK.step () hi trivial ?_;simp only [go_sem,seval,mostU]
 intro _ hdx _;have hdx:decide ((6:Int) < 6)=false:=hdx;have hmr:=mostU_range (f:=L) 6 hin;obtain ⟨M,hM⟩:=nmE (mostU L 6);rw [<- hM] at hmr hT |-;have hO:=refOf_spec M (by omega);simp only [wd] at hO;simp only [go_sem,seval,hdx];refine CallN.pure hO ?_;simp only [go_sem,seval,lml];refine LoopK.walk (S:=Unit) qs.length [1,2,3,4] [80] (fun i _=>[(15,.int .i64 i),(14,.ref 1552)]) (fun i _=>[(1552,.own 2 (wds (M :: (pcL r w c (qs.take i)).map addF)))]) (fun i _=>True) () trivial ?_ ?_ ?_
 ·simp only [go_sem,seval]<;>simp [wds,wd,pcL]
 ·intro i _ hi hdi hwi _;have hm:=map_at (c:=PosV.cells) qs hi;have hs:=pcL_step r w c qs hi;have hlen:=pcL_len r w c (qs.take i);have hlt:(qs.take i).length=i:=by simp;omega
  have hA:=h5 qs[i].inst;obtain ⟨x,hx⟩:=nmE (instOf r qs[i].inst);have hxok:instIs r qs[i].inst=true->x.ok=true:=fun h=>by rw [hx];exact instOf_ok hko.1 h
  have hqty:=List.all_eq_true.1 hko.2 qs[i] (List.getElem_mem hi);have hwl:(wds (M :: (pcL r w c (qs.take i)).map addF)).length<=i+1:=by simp [wds];omega
  have hlI:(i:Int) < (qs.length:Int):=by omega
  simp only [pcHit,<- hx] at hs;rw [<- hx] at hA;simp only [PosV.cells] at hm;simp only [InstV.cells] at hA;simp only [go_sem,seval,lml,hdi,hm];(with_reducible and_intros)<;>first|exact .dq|omega|skip
  refine CallN.pure hA ?_;cases p1:instIs r qs[i].inst
  ·simp only [p1,Bool.false_and,bfe,if_false] at hs;simp only [go_sem,seval,lml,p1,hwi];(with_reducible and_intros)<;>first|exact .dq|omega|skip
   refine RoundK.step () hi trivial ?_;simp only [go_sem,seval,hs]
  cases p2:qs[i].who==w
  ·simp only [p1,p2,Bool.false_and,Bool.true_and,bfe,if_false] at hs;simp only [go_sem,seval,lml,hm,p1,p2,hwi];(with_reducible and_intros)<;>first|exact .dq|omega|skip
   refine RoundK.step () hi trivial ?_;simp only [go_sem,seval,hs]
  cases p3:x.cur==c
  ·simp only [p1,p2,p3,Bool.and_false,Bool.true_and,bfe,if_false] at hs;simp only [go_sem,seval,lml,hm,p1,p2,p3,hwi];(with_reducible and_intros)<;>first|exact .dq|omega|skip
   refine RoundK.step () hi trivial ?_;simp only [go_sem,seval,hs]
  simp only [p1,p2,p3,Bool.and_self,if_true] at hs;have hk:=hxok p1;obtain ⟨-,g1,g2⟩:=inst_range hk;simp only [qtyB,bae,Bool.not_eq_true',decide_eq_false_iff_not] at hqty;have w1:IntKind.wrap .i64 (0-qs[i].qty) = -qs[i].qty:=by rw [wr64 (by omega) (by omega)];omega
  have ht:=refTimesI (max qs[i].qty (-qs[i].qty)) x.add ⟨by omega,by omega⟩ ⟨by omega,by omega⟩;have hF:max qs[i].qty (-qs[i].qty)*x.add=addF ⟨x,qs[i].qty⟩:=rfl;rw [hF] at ht;simp only [wd] at ht;simp only [go_sem,seval,lml,hm,p1,p2,p3,hwi,w1];(with_reducible and_intros)<;>first|exact .dq|omega|skip
  refine CallN.pure ht ?_;simp only [go_sem,seval,hwi];(with_reducible and_intros)<;>first|exact .dq|omega|skip
  refine RoundK.step () hi trivial ?_;simp only [go_sem,seval,hs]<;>simp [wd,wds]
 ·intro _ hdx _
  have hb:∀ n∈M :: (pcL r w c qs).map addF,-1208925819614629174706176<=n/\n<=1208925819614629174706176:=by
   intro n hn;rcases List.mem_cons.1 hn with rfl | hn
   ·omega
   ·obtain ⟨p,hp,rfl⟩:=List.mem_map.1 hn;exact addF_range (hpo p hp)
  have hs:=refSum_spec (M :: (pcL r w c qs).map addF) (by simp;omega) (fun n hn=>in2_of (hb n hn) (by omega));have h2:=sumL_bound (B:=1208925819614629174706176) hb;rw [<- hT] at hs h2;simp only [List.length_cons,lml] at h2;have hin2:in2 T=true:=in2_of (B:=1208925819614629174706176*(((pcL r w c qs).length+1:Nat):Int)) h2 (by omega);have hI2:=refInt_spec T;rw [hin2,if_pos rfl] at hs;simp only [wd] at hs hI2;simp only [go_sem,seval,lml,hdx,List.take_length];refine CallN.gen [] [] true (by simp) ?_;simp only [go_sem,seval];refine CallG.intro hs ?_;simp only [go_sem,seval];refine CallN.pure hI2 ?_;cases hi:inR T<;>simp only [go_sem,seval,hi]<;>simp
theorem Spec.frozen {P:Program} {f:FuncId} {ds hs':List D} {d:D} (h:Abs.Spec P f [] ds hs' d) (fz:List Nat) {hs2:List D} {d2:D} (hd:(frzEL fz (mkE [(0,d)] (osL 0 hs'))).t 0=d2) (ho:∀ r,(frzEL fz (mkE [(0,d)] (osL 0 hs'))).o r=hs2.getD r .undef):Abs.Spec P f [] ds hs2 d2:=by
 refine ⟨h.1,?_⟩;intro w l0 G0 own0 S0 vs hl0 hG hsz hr hobj;refine (h.2 w l0 G0 own0 S0 vs hl0 hG hsz hr hobj).mono ?_
 rintro e w' ⟨v,rfl,o⟩
 refine ⟨v,rfl,o.os,o.tape,o.output,o.size,o.old,o.part,?_⟩;obtain ⟨lev,own,S,h1,h2,h3,h4,_⟩:=o.rep
 have hi:Inv w l0 G0 S w' lev own S (mkE [(0,d)] (osL 0 hs')) (fun j=>if j=0 then v else Go.undef):=by
  refine ⟨o.os,o.tape,o.output,o.size,o.old,o.part,h1,h2,fun _ _ _=>rfl,?_,?_⟩
  ·intro s
   show RepV _ _ (Abs.look [(0,d)] s)
   by_cases hs:s=0
   ·subst hs;simpa [Abs.look] using h3
   ·simp only [Abs.look,if_neg hs];exact .undef _
  ·intro r
   show ObjAt _ _ _ _ _ _ r (Abs.look (osL 0 hs') r)
   rw [osL_look];simpa using h4 r
 obtain ⟨lev',S',hi'⟩:=Inv.frzL fz hi (fun _ _=>trivial);refine ⟨lev',own,S',hi'.priv,hi'.levOld,?_,?_,fun i h=>by cases h⟩
 ·have:=hi'.temps 0;rw [hd] at this;simpa using this
 ·intro r;have:=hi'.objs r
  rwa [ho] at this
def RollV.tiny (r:RollV):Prop:=r.ms.length < 2 ^ 30/\r.ns.length < 2 ^ 30/\r.xs.length < 2 ^ 30
theorem RollV.tiny.small {r:RollV} (h:r.tiny):r.small:=⟨by have:=h.1;omega,by have:=h.2.1;omega,by have:=h.2.2;omega⟩
theorem twinRoll_spec (r:RollV) (hr:r.tiny):Abs.Spec Tryz.prog 40 [] [.agg r.cells] [.own 3 (r.ms.map MemberV.cells),.own 12 (r.ns.map InstV.cells),.own 4 (r.xs.map AssetV.cells)] (.agg [.ref 0,.ref 1,.ref 2]):=by
 obtain ⟨l1,l2,l3⟩:=hr;simp only [RollV.cells];refine sgo 23 1 [.cell 2 29] mixed Tryz.func40 ?_;simp only [go_sem,seval,lml];omega
theorem twinBook_spec (b:BookV) (hb:b.small):Abs.Spec Tryz.prog 41 [] [.agg b.cells] [.own 7 (b.ts.map TradeV.cells),.own 4 (b.qs.map PosV.cells)] (.agg [.int .i64 b.next,.ref 0,.ref 1]):=by
 obtain ⟨l1,l2⟩:=hb;simp only [BookV.cells];refine sgo 20 1 [.cell 2 33] mixed Tryz.func41 ?_;simp only [go_sem,seval,lml];omega
theorem twinLed_spec (l:LedV) (hl:l.bs.length < 2 ^ 30):Abs.Spec Tryz.prog 42 [] [.agg l.cells] [.own 4 (l.bs.map BalV.cells)] (.agg [.int .i64 l.last,.ref 0]):=by
 simp only [LedV.cells];refine sgo 14 1 [.cell 2 36] mixed Tryz.func42 ?_;simp only [go_sem,seval,lml];omega
theorem twinReply_spec (x:ReplyV) (h:x.fits):Abs.Spec Tryz.prog 33 [] [.agg x.cells] [.own 3 (x.dues.map DueV.cells),.own 8 (x.falls.map FallV.cells)] (.agg [.int .i64 x.code,.int .i64 x.no,.int .i64 x.amt,.ref 0,.ref 1]):=by
 obtain ⟨h1,h2⟩:=h;simp only [ReplyV.cells];refine sgo 24 1 [.cell 2 52] mixed Tryz.func33 ?_;simp only [go_sem,seval,lml];omega
theorem twinReply_frozen (x:ReplyV) (h:x.fits):Abs.Spec Tryz.prog 33 [] [.agg x.cells] [] (.agg x.cells):=by
 refine Spec.frozen (twinReply_spec x h) [0,1] ?_ ?_
 ·simp only [ReplyV.cells];rfl
 ·intro r;rcases r with _ | _ | r
  ·rfl
  ·rfl
  ·rfl
structure StateV.small (s:StateV):Prop where
 roll:s.roll.tiny
 book:s.book.small
 led:s.led.bs.length < 2 ^ 30
 ps:s.ps.length < 2 ^ 30
 calls:s.calls.length < 2 ^ 30
 bids:s.bids.length < 2 ^ 30
 seats:s.seats.length < 2 ^ 30
 rs:∀ x∈s.seats,x.r.fits
def stRefs (s:StateV):List D:=[.int .i64 s.now,.int .i64 s.day,.int .i64 s.phase,.ref 0,.ref 1,.ref 2,.int .i64 s.book.next,.ref 3,.ref 4,.int .i64 s.led.last,.ref 5,.ref 6,.ref 7,.ref 8,.ref 9]
def stOwn (s:StateV):List D:=[.own 3 (s.roll.ms.map MemberV.cells),.own 12 (s.roll.ns.map InstV.cells),.own 4 (s.roll.xs.map AssetV.cells),.own 7 (s.book.ts.map TradeV.cells),.own 4 (s.book.qs.map PosV.cells),.own 4 (s.led.bs.map BalV.cells),.own 3 (pl s.ps),.own 4 (s.calls.map CallV.cells),.own 5 (s.bids.map BidV.cells),.own 7 (s.seats.map SeatV.cells)]
theorem twinState_spec (s:StateV) (hs:s.small):Abs.Spec Tryz.prog 15 [] [.agg s.cells] (stOwn s) (.agg (stRefs s)):=by
 have h1:=twinRoll_spec s.roll hs.roll;have h2:=twinBook_spec s.book hs.book;have h3:=twinLed_spec s.led hs.led;have e1:=hs.ps;have e2:=hs.calls;have e3:=hs.bids;have e4:=hs.seats;simp only [RollV.cells] at h1;simp only [BookV.cells] at h2;simp only [LedV.cells] at h3;simp only [StateV.cells,stOwn,stRefs];refine sgo 68 1 [.cell 2 42] mixed Tryz.func15 ?_;simp only [go_sem,seval];(with_reducible and_intros)<;>first|exact .dq|omega|skip
 refine CallN.gen [] [] false (by simp) ?_;simp only [go_sem,seval];refine CallG.intro h1 ?_;simp only [go_sem,seval];(with_reducible and_intros)<;>first|exact .dq|omega|skip
 refine CallN.gen [] [] false (by simp) ?_;simp only [go_sem,seval];refine CallG.intro h2 ?_;simp only [go_sem,seval];(with_reducible and_intros)<;>first|exact .dq|omega|skip
 refine CallN.gen [] [] false (by simp) ?_;simp only [go_sem,seval];refine CallG.intro h3 ?_;simp only [go_sem,seval,lml];(with_reducible and_intros)<;>first|exact .dq|omega|skip
 refine LoopK.walk (S:=Unit) s.seats.length [1,2,3] [32,48,160,161,162,208,209,256,352,448,544] (fun i _=>[(4,.int .i64 i)])
  (fun i _=>[(64,.box [.int .i64 s.now,.int .i64 s.day,.int .i64 s.phase,.ref 160,.ref 161,.ref 162,.int .i64 s.book.next,.ref 208,.ref 209,.int .i64 s.led.last,.ref 256,.ref 352,.ref 448,.ref 544,.ref 1056]),(1056,.own 7 ((s.seats.take i).map SeatV.cells))]) (fun _ _=>True) () trivial ?_ ?_ ?_
 ·simp only [go_sem,seval]<;>simp
 ·intro i _ hi hdi hwi _;have hm:=map_at (c:=SeatV.cells) s.seats hi;have hr:=twinReply_frozen s.seats[i].r (hs.rs _ (List.getElem_mem hi))
  have hnext:(s.seats.take (i+1)).map SeatV.cells=(s.seats.take i).map SeatV.cells++[s.seats[i].cells]:=by
   rw [List.take_succ_eq_append_getElem hi,List.map_append,List.map_cons,List.map_nil]
  have hlt:((s.seats.take i).map SeatV.cells).length=i:=by simp;omega
  simp only [SeatV.cells] at hm;simp only [ReplyV.cells] at hr;simp only [go_sem,seval,hdi,hm,lml];(with_reducible and_intros)<;>first|exact .dq|omega|skip
  refine CallN.pure hr ?_;simp only [go_sem,seval,hwi,hlt];(with_reducible and_intros)<;>first|exact .dq|omega|skip
  refine RoundK.step () hi trivial ?_;simp only [go_sem,seval,hnext,SeatV.cells]
 ·intro _ hdx _;have ht:(s.seats.take s.seats.length).map SeatV.cells=s.seats.map SeatV.cells:=by rw [List.take_length]
  simp only [go_sem,seval,hdx,lml,ht]
def AcctV.same (x y:AcctV):Bool:=x.kind==y.kind&&(x.who==y.who&&x.cur==y.cur)
theorem less_iff {x y:AcctV}:x.less y=true ↔ x.kind < y.kind\/(x.kind=y.kind/\(x.who < y.who\/(x.who=y.who/\x.cur < y.cur))):=by
 unfold AcctV.less;split
 ·simp;omega
 ·split<;>simp<;>omega
theorem pairwise_of {bs:List BalV} (h:ledSorted bs=true):bs.Pairwise (fun x y=>x.acct.less y.acct=true):=by
 rw [List.pairwise_iff_getElem]
 have step:∀ k (hk:k+1 < bs.length),bs[k].acct.less bs[k+1].acct=true:=fun k hk=>by
  have:=List.all_eq_true.1 h (k+1) (List.mem_range.2 hk);rw [ledAt_succ hk,bae] at this;exact this.2
 have key:∀ d k (hk:k+d+1 < bs.length),bs[k].acct.less bs[k+d+1].acct=true:=by
  intro d
  induction d with
  | zero=>intro k hk;exact step k hk
  | succ d ih =>
   intro k hk;have h1:=less_iff.1 (ih k (by omega));have h2:=less_iff.1 (step (k+d+1) hk);have h3:bs[k].acct.less bs[k+d+1+1].acct=true:=less_iff.2 (by omega);exact h3
 intro i j hi hj hij;have:=key (j-i-1) i (by omega);have e:i+(j-i-1)+1=j:=by omega
 simpa only [e] using this
theorem of_ok {l:LedV} {r:RollV} {ps:List Plg} {w c:Int} (h:ofE l r ps w c=0):r.okB=true/\firstE r w c ps=0/\ofN l r ps w c=ofL ⟨2,w,c⟩ l.bs+sumV r w c ps/\inR (ofN l r ps w c)=true:=by
 have h0:chk3 l r ps=0:=by
  by_cases hb:(chk3 l r ps != 0)=true
  ·simp only [ofE,hb,if_true] at h;exact h
  ·simpa using hb
 have hb0:(chk3 l r ps != 0)=false:=by simp [h0]
 have hr:r.okB=true:=by
  unfold chk3 at h0;split at h0
  ·rename_i hh;simp only [bae] at hh;exact hh.1.2
  ·cases h0
 have h1:firstE r w c ps=0:=by
  by_cases hb:(firstE r w c ps != 0)=true
  ·simp only [ofE,hb0,hb,if_true,bfe,if_false] at h;exact h
  ·simpa using hb
 have hb1:(firstE r w c ps != 0)=false:=by simp [h1]
 simp only [ofE,hb0,hb1,bfe,if_false] at h
 have hs:right (ofL ⟨2,w,c⟩ l.bs :: valsL r w c ps)=true/\inR (sumL (ofL ⟨2,w,c⟩ l.bs :: valsL r w c ps))=true:=by
  unfold sumE at h;split at h
  ·rename_i hh;split at h
   ·rename_i hi;exact ⟨hh,hi⟩
   ·cases h
  ·cases h
 have hN:ofN l r ps w c=sumL (ofL ⟨2,w,c⟩ l.bs :: valsL r w c ps):=by
  simp [ofN,hb0,hb1,sumN,hs.1,hs.2]
 refine ⟨hr,h1,?_,by rw [hN];exact hs.2⟩;rw [hN];simp only [sumL,sumV_eq]
def shE (s:StateV) (w c:Int):Int:=
 if ofE s.led s.roll s.ps w c=0 then (if s.book.okB then (if marE s.roll w c s.book.qs=0 then (if marN s.roll w c s.book.qs<=ofN s.led s.roll s.ps w c then 0 else lessE (marN s.roll w c s.book.qs) (ofN s.led s.roll s.ps w c)) else marE s.roll w c s.book.qs) else 14) else ofE s.led s.roll s.ps w c
def shN (s:StateV) (w c:Int):Int:=
 if ofE s.led s.roll s.ps w c=0 then (if s.book.okB then (if marE s.roll w c s.book.qs=0 then (if marN s.roll w c s.book.qs<=ofN s.led s.roll s.ps w c then 0 else lessN (marN s.roll w c s.book.qs) (ofN s.led s.roll s.ps w c)) else 0) else 0) else 0
structure StateV.fit (s:StateV):Prop where
 roll:s.roll.small
 book:s.book.small
 led:s.led.bs.length < 2 ^ 30
 ps:s.ps.length < 2 ^ 30
theorem marN_range (r:RollV) (w c:Int) (qs:List PosV):inR (marN r w c qs)=true:=by
 unfold marN;split
 ·split
  ·assumption
  ·decide
 ·decide
theorem led_bs {l:LedV} (h:l.okB=true):ledSorted l.bs=true/\∀ z∈l.bs,inR z.sum=true:=by
 simp only [LedV.okB,bae] at h;refine ⟨h.1.2,fun z hz=>?_⟩;obtain ⟨i,hi,rfl⟩:=List.mem_iff_getElem.1 hz;have:=List.all_eq_true.1 h.1.2 i (List.mem_range.2 hi)
 have hk:balOk l.bs[i]=true:=by
  rcases Nat.eq_zero_or_pos i with rfl | hp
  ·rwa [ledAt_zero hi] at this
  ·obtain ⟨j,rfl⟩:∃ j,i=j+1:=⟨i-1,by omega⟩
   rw [ledAt_succ hi,bae] at this;exact this.1
 simp only [balOk,bae] at hk;exact hk.2.1
theorem in2_sum {l:List Int} (h:∀ n∈l,I64 n) (hl:l.length < 2 ^ 58):(∀ n∈l,in2 n=true)/\in2 (sumL l)=true:=by
 have h1:∀ n∈l,-9223372036854775808<=n/\n<=9223372036854775808:=fun n hn=>by have:=h n hn;exact ⟨this.1,by have:=this.2;omega⟩
 refine ⟨fun n hn=>in2_of (h1 n hn) (by omega),?_⟩;exact in2_of (B:=9223372036854775808*(l.length:Int)) (sumL_bound h1) (by omega)
def addN (l:List Int):Int:=if inR (sumL l) then sumL l else 0
theorem refAdd_spec (l:List Int) (h:∀ n∈l,I64 n) (hl:l.length < 2 ^ 30):Abs.Spec Tryz.prog 164 [] [.sl 1 (ints l)] [] (.tup [.int .i64 (addN l),.bool (inR (sumL l))]):=by
 obtain ⟨h1,h2⟩:=in2_sum h (by omega);have hs:=refSum_spec l (by omega) h1;have hI:=refInt_spec (sumL l);rw [h2,if_pos rfl] at hs;simp only [wd] at hs hI;refine sgo 33 1 [.tmp 2,.tmp 3] mixed Tryz.func164 ?_;simp only [go_sem,seval,ints_len];refine LoopK.walk (S:=Unit) l.length [0] [] (fun i _=>[(5,.int .i64 i),(4,.ref 352)]) (fun i _=>[(352,.own 2 (wds (l.take i)))]) (fun _ _=>True) () trivial ?_ ?_ ?_
 ·simp only [go_sem,seval]<;>simp [wds]
 ·intro i _ hi hdi hwi _;have hO:=refOf_spec l[i] (h _ (List.getElem_mem hi));have hnext:wds (l.take (i+1))=wds (l.take i)++[wd l[i]]:=by rw [List.take_succ_eq_append_getElem hi];simp only [wds,List.map_append,List.map_cons,List.map_nil]
  have hlen:(wds (l.take i)).length=i:=by simp [wds];omega
  simp only [wd] at hO;simp only [go_sem,seval,ints_len,hdi,ints_at l hi];(with_reducible and_intros)<;>first|exact .dq|omega|skip
  refine CallN.pure hO ?_;simp only [go_sem,seval,hwi,hlen];(with_reducible and_intros)<;>first|exact .dq|omega|skip
  refine RoundK.step () hi trivial ?_;simp only [go_sem,seval,hnext]<;>simp [wd]
 ·intro _ hdx _;simp only [go_sem,seval,ints_len,hdx,List.take_length];refine CallN.gen [] [] true (by simp) ?_;simp only [go_sem,seval];refine CallG.intro hs ?_;simp only [go_sem,seval];refine CallN.pure hI ?_;simp only [go_sem,seval,addN]
theorem ref8Right_spec (x:AcctV):Abs.Spec Tryz.prog 113 [] [.agg x.cells] [] (.bool x.right):=by
 simp only [AcctV.cells];refine sgo 40 1 [.tmp 2] mixed Tryz.func113 ?_;simp only [go_sem,seval]
 repeat' with_reducible first|apply And.intro|exact .dq|refine CallN.pure (by assumption) ?_|refine .splitDN (fun h=>?_) fun h=>?_|refine .splitD (fun h=>?_) fun h=>?_|refine .splitN (fun h=>?_) fun h=>?_|refine .split (fun h=>?_) fun h=>?_|refine .id ?_|refine RoundK.next (by omega) ?_ ?_|exact trivial|simp only [*,go_sem,seval]
 all_goals (try simp only [decide_eq_true_eq,decide_eq_false_iff_not] at *)
 all_goals (unfold AcctV.right;simp_all [owned];try (intros;omega))
theorem ref8Floor_spec (x:AcctV):Abs.Spec Tryz.prog 166 [] [.agg x.cells] [] (.int .i64 x.floor):=by
 have hr:=ref8Right_spec x;simp only [AcctV.cells] at hr |-;refine sgo 15 1 [.tmp 2] mixed Tryz.func166 ?_;simp only [go_sem,seval]
 repeat' with_reducible first|apply And.intro|exact .dq|refine CallN.pure (by assumption) ?_|refine CallN.pure (hr) ?_|refine .splitDN (fun h=>?_) fun h=>?_|refine .splitD (fun h=>?_) fun h=>?_|refine .splitN (fun h=>?_) fun h=>?_|refine .split (fun h=>?_) fun h=>?_|refine .id ?_|refine RoundK.next (by omega) ?_ ?_|exact trivial|simp only [*,go_sem,seval]
 all_goals (unfold AcctV.floor;simp [*])
theorem ref8Less_spec (x y:AcctV):Abs.Spec Tryz.prog 167 [] [.agg x.cells,.agg y.cells] [] (.bool (x.less y)):=by
 simp only [AcctV.cells];refine sgo 30 2 [.tmp 4] mixed Tryz.func167 ?_;simp only [go_sem,seval]
 repeat' with_reducible first|apply And.intro|exact .dq|refine CallN.pure (by assumption) ?_|refine .splitDN (fun h=>?_) fun h=>?_|refine .splitD (fun h=>?_) fun h=>?_|refine .splitN (fun h=>?_) fun h=>?_|refine .split (fun h=>?_) fun h=>?_|refine .id ?_|refine RoundK.next (by omega) ?_ ?_|exact trivial|simp only [*,go_sem,seval]
 all_goals (unfold AcctV.less;simp_all)
theorem ref8Same_spec (x y:AcctV):Abs.Spec Tryz.prog 66 [] [.agg x.cells,.agg y.cells] [] (.bool (x.same y)):=by
 simp only [AcctV.cells];refine sgo 24 2 [.tmp 4] mixed Tryz.func66 ?_;simp only [go_sem,seval]
 repeat' with_reducible first|apply And.intro|exact .dq|refine CallN.pure (by assumption) ?_|refine .splitDN (fun h=>?_) fun h=>?_|refine .splitD (fun h=>?_) fun h=>?_|refine .splitN (fun h=>?_) fun h=>?_|refine .split (fun h=>?_) fun h=>?_|refine .id ?_|refine RoundK.next (by omega) ?_ ?_|exact trivial|simp only [*,go_sem,seval]
 all_goals (simp_all [AcctV.same])
theorem ref8Of_spec (l:LedV) (a:AcctV) (hl:l.bs.length < 2 ^ 30):Abs.Spec Tryz.prog 22 [] [.agg l.cells,.agg a.cells] [] (.int .i64 (ofL a l.bs)):=by
 simp only [LedV.cells,AcctV.cells];refine sgo 27 2 [.tmp 4] mixed Tryz.func22 ?_;simp only [go_sem,seval,lml];refine LoopK.walk (S:=Unit) l.bs.length [2,3] [48,64] (fun i _=>[(5,.int .i64 i)]) (fun _ _=>[]) (fun i _=>ofL a (l.bs.drop i)=ofL a l.bs) () rfl ?_ ?_ ?_
 ·simp only [go_sem,seval]<;>simp
 ·intro i _ hi hdi hwi hI;have hm:=map_at (c:=BalV.cells) l.bs hi;obtain ⟨z,hz⟩:=nmE (l.bs[i]);have hS:=ref8Same_spec z.acct a;have hlt:(i:Int) < (l.bs.length:Int):=by omega
  rw [drop_at hi] at hI;rw [<- hz] at hm hI;simp only [ofL] at hI;have e:isB a z=z.acct.same a:=by simp [isB,AcctV.same,BalV.acct]
  rw [e] at hI;simp only [AcctV.cells,BalV.cells,BalV.acct] at hS hm;simp only [go_sem,seval,lml,hdi,hm];(with_reducible and_intros)<;>first|exact .dq|omega|skip
  refine CallN.pure hS ?_;cases hb:AcctV.same ⟨z.kind,z.who,z.cur⟩ a
  ·rw [show z.acct.same a=false from hb] at hI;simp only [bfe,if_false] at hI;simp only [go_sem,seval,hwi];refine RoundK.step () hi hI ?_;simp only [go_sem,seval]
  ·rw [show z.acct.same a=true from hb,if_pos rfl] at hI;simp only [go_sem,seval,lml,hm,<- hI];(with_reducible and_intros)<;>first|exact .dq|omega|skip
 ·intro _ hdx hI;simp only [List.drop_length,ofL] at hI;simp only [go_sem,seval,lml,hdx,<- hI]
def inK (ks:List Int) (k:Int):Bool:=ks.any (· == k)
def totL (c:Int) (ks:List Int) (bs:List BalV):List Int:=(bs.filter fun b=>inK ks b.kind&&b.cur==c).map BalV.sum
theorem totL_step (c:Int) (ks:List Int) (bs:List BalV) {i:Nat} (h:i < bs.length):totL c ks (bs.take (i+1))=if inK ks bs[i].kind&&bs[i].cur==c then totL c ks (bs.take i)++[bs[i].sum] else totL c ks (bs.take i):=by
 simp only [totL];rw [List.take_succ_eq_append_getElem h,List.filter_append,List.map_append];cases hb:(inK ks bs[i].kind&&bs[i].cur==c)<;>simp [List.filter,hb]
theorem totL_len (c:Int) (ks:List Int) (bs:List BalV):(totL c ks bs).length<=bs.length:=by
 simp only [totL,lml];exact List.length_filter_le _ _
theorem totL_rng {c:Int} {ks:List Int} {bs:List BalV} (h:∀ b∈bs,b.rng):∀ n∈totL c ks bs,I64 n:=by
 intro n hn;simp only [totL,List.mem_map,List.mem_filter] at hn;obtain ⟨b,⟨hb,_⟩,rfl⟩:=hn;exact (h b hb).2.2.2
theorem inK_step (ks:List Int) (k:Int) {i:Nat} (h:i < ks.length):inK (ks.take (i+1)) k=(inK (ks.take i) k||ks[i]==k):=by
 simp only [inK];rw [List.take_succ_eq_append_getElem h,List.any_append];simp
theorem ref8Total_spec (l:LedV) (c:Int) (ks:List Int) (hl:l.bs.length < 2 ^ 30) (hk:ks.length < 2 ^ 30) (hr:∀ b∈l.bs,b.rng):Abs.Spec Tryz.prog 168 [] [.agg l.cells,.int .i64 c,.sl 1 (ints ks)] [] (.tup [.int .i64 (addN (totL c ks l.bs)),.bool (inR (sumL (totL c ks l.bs)))]):=by
 have htl:=totL_len c ks l.bs;have hA:=refAdd_spec (totL c ks l.bs) (totL_rng hr) (by omega);simp only [LedV.cells];refine sgo 65 3 [.tmp 6,.tmp 7] mixed Tryz.func168 ?_;simp only [go_sem,seval,lml,ints_len];refine LoopK.walk (S:=Unit) l.bs.length [1,2,3] [64] (fun i _=>[(9,.int .i64 i),(8,.ref 976)]) (fun i _=>[(976,.own 1 (ints (totL c ks (l.bs.take i))))]) (fun _ _=>True) () trivial ?_ ?_ ?_
 ·simp only [go_sem,seval]<;>simp [totL,ints]
 ·intro i _ hi hdi hwi _;have hm:=map_at (c:=BalV.cells) l.bs hi;have hs:=totL_step c ks l.bs hi;have hlen:=totL_len c ks (l.bs.take i);have hlt:(l.bs.take i).length=i:=by simp;omega
  have hli:(i:Int) < (l.bs.length:Int):=by omega
  obtain ⟨z,hz⟩:=nmE (l.bs[i]);rw [<- hz] at hm hs;simp only [BalV.cells] at hm;simp only [go_sem,seval,lml,hdi,ints_len];refine LoopK.walk (S:=Unit) ks.length [1,2,3,8,9] [64,976] (fun k _=>[(11,.int .i64 k),(10,.bool (inK (ks.take k) z.kind))]) (fun _ _=>[]) (fun _ _=>True) () trivial ?_ ?_ ?_
  ·simp only [go_sem,seval]<;>simp [inK]
  ·intro k _ hk hdk hwk _;have hst:=inK_step ks z.kind hk;cases hb:inK (ks.take k) z.kind
   ·rw [hb,Bool.false_or] at hst;simp only [go_sem,seval,lml,ints_len,hdk,ints_at ks hk,hm,hwk];(with_reducible and_intros)<;>first|exact .dq|omega|skip
    refine RoundK.step () hk trivial ?_;simp only [go_sem,seval,hst]
   ·rw [hb,Bool.true_or] at hst;simp only [go_sem,seval,lml,ints_len,hdk,ints_at ks hk,hm,hwk];(with_reducible and_intros)<;>first|exact .dq|omega|skip
    refine RoundK.step () hk trivial ?_;simp only [go_sem,seval,hst]
  ·intro _ hdk _;cases b1:inK ks z.kind
   ·simp only [b1,Bool.false_and,bfe,if_false] at hs;simp only [go_sem,seval,ints_len,lml,hdk,List.take_length,b1,hwi];(with_reducible and_intros)<;>first|exact .dq|omega|skip
    refine RoundK.step () hi trivial ?_;simp only [go_sem,seval,hs]
   cases b2:z.cur==c
   ·simp only [b1,b2,Bool.and_false,bfe,if_false] at hs;simp only [go_sem,seval,ints_len,lml,hdk,List.take_length,b1,hm,b2,hwi];(with_reducible and_intros)<;>first|exact .dq|omega|skip
    refine RoundK.step () hi trivial ?_;simp only [go_sem,seval,hs]
   simp only [b1,b2,Bool.and_self,if_true] at hs;simp only [go_sem,seval,ints_len,lml,hdk,List.take_length,b1,hm,b2,hwi];(with_reducible and_intros)<;>first|exact .dq|omega|skip
   refine RoundK.step () hi trivial ?_;simp only [go_sem,seval,hs]<;>simp [ints]
 ·intro _ hdx _;simp only [go_sem,seval,ints_len,lml,hdx,List.take_length];refine CallN.gen [] [] true (by simp) ?_;simp only [go_sem,seval];refine CallG.intro hA ?_;simp only [go_sem,seval]
theorem led_next {bs:List BalV} {i:Nat} (hI:∀ j < i,ledAt bs j=true) (h0:ledAt bs i=true):∀ k < i+1,ledAt bs k=true:=fun k hk=>by
 rcases Nat.lt_or_ge k i with h | h
 ·exact hI k h
 ·obtain rfl:k=i:=by omega
  exact h0
theorem tot_cur {bs:List BalV} (h:ledSorted bs=true) (c:Int):totL c [1,2,3,4,5,6] bs=curL c bs/\∀ n∈curL c bs,inR n=true:=by
 have hk:∀ b∈bs,balOk b=true:=fun b hb=>by
  obtain ⟨i,hi,rfl⟩:=List.mem_iff_getElem.1 hb;have:=List.all_eq_true.1 h i (List.mem_range.2 hi);rcases Nat.eq_zero_or_pos i with rfl | hp
  ·rwa [ledAt_zero hi] at this
  ·obtain ⟨j,rfl⟩:∃ j,i=j+1:=⟨i-1,by omega⟩
   rw [ledAt_succ hi,bae] at this;exact this.1
 refine ⟨?_,fun n hn=>?_⟩
 ·unfold totL curL;congr 1;refine List.filter_congr fun b hb=>?_
  have:=hk b hb;simp only [balOk,bae] at this;have h1:=this.1;unfold AcctV.right at h1;split at h1
  ·cases h1
  ·rename_i h2;simp only [BalV.acct] at h2
   have e:inK [1,2,3,4,5,6] b.kind=true:=by
    simp only [inK,List.any_cons,List.any_nil,Bool.or_eq_true,beq_iff_eq];omega
   rw [e,Bool.true_and]
 ·simp only [curL,List.mem_map,List.mem_filter] at hn;obtain ⟨b,⟨hb,_⟩,rfl⟩:=hn;have:=hk b hb;simp only [balOk,bae] at this;exact this.2.1
theorem right_all {l:List Int} (h:∀ n∈l,inR n=true):right l=true:=List.all_eq_true.2 h
theorem ref8Ledger_spec (l:LedV) (hl:l.bs.length < 2 ^ 30) (hr:∀ b∈l.bs,b.rng):Abs.Spec Tryz.prog 70 [] [.agg l.cells] [] (.bool l.okB):=by
 have hT:=fun c=>ref8Total_spec l c [1,2,3,4,5,6] hl (by simp) hr
 simp only [LedV.cells,ints,List.map_cons,List.map_nil] at hT |-;refine sgo 80 1 [.tmp 2] mixed Tryz.func70 ?_;rcases Int.lt_or_le l.last 0 with h0 | h0
 ·have d0:decide (l.last < 0)=true:=by simpa using h0
  have e:l.okB=false:=by simp [LedV.okB];omega
  simp only [go_sem,seval,d0,e]
 have d0:decide (l.last < 0)=false:=by simpa using h0
 simp only [go_sem,seval,d0,lml];refine LoopK.count l.bs.length [1] [32] (fun i=>[(3,.int .i64 i)]) (fun i=>[]) (fun i=>∀ j < i,ledAt l.bs j=true) (by simp) ?_ ?_
 ·simp only [go_sem,seval]<;>simp
 intro i hi hI;simp only [go_sem,seval,lml];refine CondE.splitD (fun h=>?_) (fun h=>?_)
 ·have hi':i < l.bs.length:=by omega
  have hw:IntKind.wrap .i64 ((i:Int)+1)=((i+1:Nat):Int):=by rw [wr64 (by omega) (by omega)];omega
  have hm:=map_at (c:=BalV.cells) l.bs hi';have h1:=ref8Right_spec l.bs[i].acct;have h2:=refRight_spec l.bs[i].sum;have h3:=ref8Floor_spec l.bs[i].acct;have e0:=led_next (i:=i) hI;have e1:ledAt l.bs i=false->l.okB=false:=fun hx=>by simp [LedV.okB,ledSorted_no hi' hx]
  simp only [BalV.cells,AcctV.cells,BalV.acct] at hm h1 h3;clear hT;rcases Nat.eq_zero_or_pos i with rfl | hpos
  ·have hk:=ledAt_zero hi';simp only [balOk,BalV.acct] at hk;simp only [go_sem,seval,hm,lml]
   repeat' with_reducible first|apply And.intro|exact .dq|refine CallN.pure (by assumption) ?_|refine CallN.pure (h1) ?_|refine CallN.pure (h2) ?_|refine CallN.pure (h3) ?_|refine .splitDN (fun h=>?_) fun h=>?_|refine .splitD (fun h=>?_) fun h=>?_|refine .splitN (fun h=>?_) fun h=>?_|refine .split (fun h=>?_) fun h=>?_|refine .id ?_|refine RoundK.next (by omega) ?_ ?_|exact trivial|simp only [*,go_sem,seval]
   all_goals first
    | omega
    | rfl
    | (refine e0 ?_;clear e0 e1;rw [hk];clear hk;simp [bne, *];done)
    | (rw [e1 ?_];clear e0 e1;rw [hk];clear hk;simp [bne, *];done)
  ·obtain ⟨j,rfl⟩:∃ j,i=j+1:=⟨i-1,by omega⟩
   have hj:j < l.bs.length:=by omega
   have hw1:IntKind.wrap .i64 (((j+1:Nat):Int)-1)=(j:Int):=by rw [wr64 (by omega) (by omega)];omega
   have hk:=ledAt_succ hi';simp only [balOk,BalV.acct] at hk;have hmj:=map_at (c:=BalV.cells) l.bs hj;have h4:=ref8Less_spec l.bs[j].acct l.bs[j+1].acct;simp only [BalV.cells,AcctV.cells,BalV.acct] at hmj h4;simp only [go_sem,seval,hm,lml]
   repeat' with_reducible first|apply And.intro|exact .dq|refine CallN.pure (by assumption) ?_|refine CallN.pure (h1) ?_|refine CallN.pure (h2) ?_|refine CallN.pure (h3) ?_|refine CallN.pure (h4) ?_|refine .splitDN (fun h=>?_) fun h=>?_|refine .splitD (fun h=>?_) fun h=>?_|refine .splitN (fun h=>?_) fun h=>?_|refine .split (fun h=>?_) fun h=>?_|refine .id ?_|refine RoundK.next (by omega) ?_ ?_|exact trivial|simp only [*,go_sem,seval,hmj,lml]
   all_goals first
    | omega
    | rfl
    | (refine e0 ?_;clear e0 e1;rw [hk];clear hk;simp [bne, *];done)
    | (rw [e1 ?_];clear e0 e1;rw [hk];clear hk;simp [bne, *];done)
 have hs:=ledSorted_yes (fun j (hj:j < l.bs.length)=>hI j (by omega))
 have hbal:∀ c:Int,balL l.bs c=(inR (sumL (curL c l.bs))&&addN (curL c l.bs)==0):=fun c=>by
  have:=(tot_cur hs c).2;simp only [balL,sumE,sumN,addN,right_all this,if_true,Bool.true_and];cases inR (sumL (curL c l.bs))<;>simp
 simp only [go_sem,seval];refine LoopK.walk (S:=Unit) 3 [1] [32] (fun i _=>[(5,.int .i64 i)]) (fun i _=>[]) (fun i _=>∀ c < i,balL l.bs (c:Nat)=true) () (by simp) ?_ ?_ ?_
 ·simp only [go_sem,seval]<;>simp
 ·intro c _ hc hdc hwc hC;have hdc:decide ((c:Int) < 3)=true:=hdc;have hTc:=hT c;rw [(tot_cur hs c).1] at hTc;have hb:=hbal c
  have hbad:balL l.bs c=false->l.okB=false:=fun hx=>by
   obtain rfl | rfl | rfl:c=0\/c=1\/c=2:=by omega
   ·have:balL l.bs 0=false:=hx;simp [LedV.okB,this]
   ·have:balL l.bs 1=false:=hx;simp [LedV.okB,this]
   ·have:balL l.bs 2=false:=hx;simp [LedV.okB,this]
  simp only [go_sem,seval,hdc];refine CallN.gen [] [] true (by simp) ?_;simp only [go_sem,seval];refine CallG.intro hTc ?_;cases b1:inR (sumL (curL c l.bs))
  ·simp only [go_sem,seval,b1,hbad (by rw [hb,b1];rfl)]
  cases b2:addN (curL c l.bs)==0
  ·simp only [go_sem,seval,b1,bne,b2,hbad (by rw [hb,b1,b2];rfl)]
  simp only [go_sem,seval,b1,bne,b2,hwc];refine RoundK.step () hc ?_ ?_
  ·intro k hk;rcases Nat.lt_or_ge k c with h | h
   ·exact hC k h
   ·obtain rfl:k=c:=by omega
    rw [hb,b1,b2];rfl
  ·simp only [go_sem,seval]
 ·intro _ hdc hC;have hdc:decide ((3:Int) < 3)=false:=hdc;have b0:balL l.bs 0=true:=hC 0 (by omega);have b1:balL l.bs 1=true:=hC 1 (by omega);have b2:balL l.bs 2=true:=hC 2 (by omega);have e:l.okB=true:=by simp [LedV.okB,hs,b0,b1,b2,h0]
  simp only [go_sem,seval,hdc,e]
theorem refKey_spec (w n:Int):Abs.Spec Tryz.prog 114 [] [.agg [.int .i64 w,.int .i64 n]] [] (.bool (keyB w n)):=by
 have h1:=refWho_spec w;have h2:=within11_spec n 1 8;refine sgo 11 1 [.tmp 2] mixed Tryz.func114 ?_;simp only [go_sem,seval]
 repeat' with_reducible first|apply And.intro|exact .dq|refine CallN.pure (by assumption) ?_|refine CallN.pure (h1) ?_|refine CallN.pure (h2) ?_|refine .splitDN (fun h=>?_) fun h=>?_|refine .splitD (fun h=>?_) fun h=>?_|refine .splitN (fun h=>?_) fun h=>?_|refine .split (fun h=>?_) fun h=>?_|refine .id ?_|refine RoundK.next (by omega) ?_ ?_|exact trivial|simp only [*,go_sem,seval]
 all_goals (simp_all [keyB])
theorem refKeyLess_spec (a b c d:Int):Abs.Spec Tryz.prog 163 [] [.agg [.int .i64 a,.int .i64 b],.agg [.int .i64 c,.int .i64 d]] [] (.bool (keyL a b c d)):=by
 refine sgo 24 2 [.tmp 4] mixed Tryz.func163 ?_;simp only [go_sem,seval]
 repeat' with_reducible first|apply And.intro|exact .dq|refine CallN.pure (by assumption) ?_|refine .splitDN (fun h=>?_) fun h=>?_|refine .splitD (fun h=>?_) fun h=>?_|refine .splitN (fun h=>?_) fun h=>?_|refine .split (fun h=>?_) fun h=>?_|refine .id ?_|refine RoundK.next (by omega) ?_ ?_|exact trivial|simp only [*,go_sem,seval]
 all_goals (simp only [keyL];simp_all)
theorem refSized_spec (t:TradeV):Abs.Spec Tryz.prog 262 [] [.agg t.cells] [] (.bool (within t.qty 1 1048576&&within t.price 1 1073741824)):=by
 have h1:=within11_spec t.qty 1 1048576;have h2:=within11_spec t.price 1 1073741824;simp only [TradeV.cells];refine sgo 11 1 [.tmp 2] mixed Tryz.func262 ?_;simp only [go_sem,seval]
 repeat' with_reducible first|apply And.intro|exact .dq|refine CallN.pure (by assumption) ?_|refine CallN.pure (h1) ?_|refine CallN.pure (h2) ?_|refine .splitDN (fun h=>?_) fun h=>?_|refine .splitD (fun h=>?_) fun h=>?_|refine .splitN (fun h=>?_) fun h=>?_|refine .split (fun h=>?_) fun h=>?_|refine .id ?_|refine RoundK.next (by omega) ?_ ?_|exact trivial|simp only [*,go_sem,seval]
 all_goals (simp_all)
theorem refNumbers_spec (t:TradeV):Abs.Spec Tryz.prog 165 [] [.agg t.cells] [] (.bool t.okB):=by
 have h0:=refSized_spec t;have h1:=refWho_spec t.buyer;have h2:=refWho_spec t.seller;have h3:=within11_spec t.inst 1 8;simp only [TradeV.cells] at h0 |-;refine sgo 27 1 [.tmp 2] mixed Tryz.func165 ?_;simp only [go_sem,seval]
 repeat' with_reducible first|apply And.intro|exact .dq|refine CallN.pure (by assumption) ?_|refine CallN.pure (h0) ?_|refine CallN.pure (h1) ?_|refine CallN.pure (h2) ?_|refine CallN.pure (h3) ?_|refine .splitDN (fun h=>?_) fun h=>?_|refine .splitD (fun h=>?_) fun h=>?_|refine .splitN (fun h=>?_) fun h=>?_|refine .split (fun h=>?_) fun h=>?_|refine .id ?_|refine RoundK.next (by omega) ?_ ?_|exact trivial|simp only [*,go_sem,seval]
 all_goals first
  | (simp_all [TradeV.okB,keyB,bne];done)
  | (rw [Bool.eq_iff_iff];simp_all [TradeV.okB,keyB,bne])
theorem tradeLt_eq (a b:TradeV):tradeLt a b = !decide (b.no<=a.no):=by
 rw [Bool.eq_iff_iff];simp [tradeLt]
theorem qtysL_rng {n:Int} {l:List PosV} (h:∀ p∈l,p.rng):∀ q∈qtysL n l,I64 q:=by
 intro q hq;simp only [qtysL,List.mem_map,List.mem_filter] at hq;obtain ⟨p,⟨hp,_⟩,rfl⟩:=hq;exact (h p hp).2.2.1
theorem level1_ref {n:Int} {l:List PosV} (h:chB PosV.okB posLt l=true):level1 n l=(inR (sumL (qtysL n l))&&addN (qtysL n l)==0):=by
 have hr:right (qtysL n l)=true:=List.all_eq_true.2 fun q hq=>by
  simp only [qtysL,List.mem_map,List.mem_filter] at hq;obtain ⟨p,⟨hp,_⟩,rfl⟩:=hq;obtain ⟨i,hi,rfl⟩:=List.mem_iff_getElem.1 hp;have:=chB_ok h hi;simp only [PosV.okB,within,bae,decide_eq_true_eq] at this;refine inR_iff.2 ?_;omega
 simp only [level1,sumE,sumN,addN,hr,if_true,Bool.true_and];cases inR (sumL (qtysL n l))<;>simp
theorem refBook_spec (b:BookV) (hl:b.small) (hr:∀ p∈b.qs,p.rng):Abs.Spec Tryz.prog 69 [] [.agg b.cells] [] (.bool b.okB):=by
 obtain ⟨hl1,hl2⟩:=hl;have hA:=fun n=>refAdd_spec (qtysL n b.qs) (qtysL_rng hr) (by have:=qtysL_len n b.qs;omega)
 have hN:=within11_spec b.next 0 1099511627776
 have hNe:within b.next 0 1099511627776=(!decide (b.next < 0)&&!decide (1099511627776 < b.next)):=by rw [Bool.eq_iff_iff];simp [within]
 simp only [BookV.cells];refine sgo 156 1 [.tmp 2] mixed Tryz.func69 ?_;simp only [go_sem,seval];refine CallN.pure hN ?_;cases b1:within b.next 0 1099511627776
 ·rw [hNe] at b1;have e:b.okB=false:=by simp only [BookV.okB,b1,Bool.and_false]
  simp only [go_sem,seval,e]
 cases b2:decide (128 < (b.ts.length:Int))
 case true =>
  have e:b.okB=false:=by simp [BookV.okB,b2]
  simp only [go_sem,seval,lml,b2,e]
 have e:b.okB=(chB PosV.okB posLt b.qs&&(chB (tradeOk b.next) tradeLt b.ts&&levelB b.qs)):=by
  rw [hNe] at b1;simp only [BookV.okB,b1,b2,Bool.not_false,Bool.and_true]
 rw [e];clear e hN hNe;simp only [go_sem,seval,lml,b2];refine LoopK.count b.qs.length [1] [32] (fun i=>[(3,.int .i64 i)]) (fun i=>[]) (fun i=>∀ j < i,chAt PosV.okB posLt b.qs j=true) (by simp) ?_ ?_
 ·simp only [go_sem,seval]<;>simp
 intro i hi hI;simp only [go_sem,seval,lml];refine CondE.splitD (fun h=>?_) (fun h=>?_)
 ·have hi':i < b.qs.length:=by omega
  have hw:IntKind.wrap .i64 ((i:Int)+1)=((i+1:Nat):Int):=by rw [wr64 (by omega) (by omega)];omega
  have hm:=map_at (c:=PosV.cells) b.qs hi';have h1:=refKey_spec b.qs[i].who b.qs[i].inst;have h2:=refRight_spec b.qs[i].cost;have h3:=within11_spec b.qs[i].qty (-1099511627776) 1099511627776;have e0:=ch_next (i:=i) hI;have e1:chAt PosV.okB posLt b.qs i=false->(chB PosV.okB posLt b.qs&&(chB (tradeOk b.next) tradeLt b.ts&&levelB b.qs))=false:=fun hx=>by simp [chB_no hi' hx]
  simp only [PosV.cells] at hm;clear hA;rcases Nat.eq_zero_or_pos i with rfl | hpos
  ·have hk:=chAt_zero (ok:=PosV.okB) (lt:=posLt) hi';simp only [PosV.okB] at hk;simp only [go_sem,seval,hm,lml]
   repeat' with_reducible first|apply And.intro|exact .dq|refine CallN.pure (by assumption) ?_|refine CallN.pure (h1) ?_|refine CallN.pure (h2) ?_|refine CallN.pure (h3) ?_|refine .splitDN (fun h=>?_) fun h=>?_|refine .splitD (fun h=>?_) fun h=>?_|refine .splitN (fun h=>?_) fun h=>?_|refine .split (fun h=>?_) fun h=>?_|refine .id ?_|refine RoundK.next (by omega) ?_ ?_|exact trivial|simp only [*,go_sem,seval]
   all_goals first
    | omega
    | rfl
    | (refine e0 ?_;clear e0 e1;rw [hk];clear hk;simp_all;done)
    | (rw [e1 ?_];clear e0 e1;rw [hk];clear hk;simp_all;done)
  ·obtain ⟨j,rfl⟩:∃ j,i=j+1:=⟨i-1,by omega⟩
   have hj:j < b.qs.length:=by omega
   have hw1:IntKind.wrap .i64 (((j+1:Nat):Int)-1)=(j:Int):=by rw [wr64 (by omega) (by omega)];omega
   have hk:=chAt_succ (ok:=PosV.okB) (lt:=posLt) hi';simp only [PosV.okB,posLt] at hk;have hmj:=map_at (c:=PosV.cells) b.qs hj;have h4:=refKeyLess_spec b.qs[j].who b.qs[j].inst b.qs[j+1].who b.qs[j+1].inst;simp only [PosV.cells] at hmj;simp only [go_sem,seval,hm,lml]
   repeat' with_reducible first|apply And.intro|exact .dq|refine CallN.pure (by assumption) ?_|refine CallN.pure (h1) ?_|refine CallN.pure (h2) ?_|refine CallN.pure (h3) ?_|refine CallN.pure (h4) ?_|refine .splitDN (fun h=>?_) fun h=>?_|refine .splitD (fun h=>?_) fun h=>?_|refine .splitN (fun h=>?_) fun h=>?_|refine .split (fun h=>?_) fun h=>?_|refine .id ?_|refine RoundK.next (by omega) ?_ ?_|exact trivial|simp only [*,go_sem,seval,hmj,lml]
   all_goals first
    | omega
    | rfl
    | (refine e0 ?_;clear e0 e1;rw [hk];clear hk;simp_all;done)
    | (rw [e1 ?_];clear e0 e1;rw [hk];clear hk;simp_all;done)
 have hP:=chB_yes (fun j (hj:j < b.qs.length)=>hI j (by omega));have hl1r:=fun n:Int=>level1_ref (n:=n) hP
 rw [hP,Bool.true_and];clear hI;simp only [go_sem,seval];refine LoopK.walk (S:=Unit) 8 [1] [32] (fun i _=>[(5,.int .i64 ((i:Int)+1))]) (fun i _=>[]) (fun i _=>∀ j < i,level1 ((j:Int)+1) b.qs=true) () (by simp) ?_ ?_ ?_
 ·simp only [go_sem,seval]<;>simp
 ·intro c _ hc _ _ hC;obtain ⟨n,hn⟩:=nmE ((c:Int)+1);have hd:decide (n<=8)=true:=decide_eq_true (by omega);have hw:IntKind.wrap .i64 (n+1)=((c+1:Nat):Int)+1:=by rw [wr64 (by omega) (by omega)];omega
  rw [<- hn];simp only [go_sem,seval,hd,lml];refine LoopK.walk (S:=Unit) b.qs.length [1,5] [32] (fun i _=>[(7,.int .i64 i),(6,.ref 1696)]) (fun i _=>[(1696,.own 1 (ints (qtysL n (b.qs.take i))))]) (fun _ _=>True) () trivial ?_ ?_ ?_
  ·simp only [go_sem,seval]<;>simp [qtysL,ints]
  ·intro i _ hi hdi hwi _;have hm:=map_at (c:=PosV.cells) b.qs hi;have hs:=qtysL_step n b.qs hi;have hlen:=qtysL_len n (b.qs.take i);have hlt:(b.qs.take i).length=i:=by simp;omega
   have hli:(i:Int) < (b.qs.length:Int):=by omega
   simp only [PosV.cells] at hm;simp only [go_sem,seval,hdi,hm,lml];(with_reducible and_intros)<;>first|exact .dq|omega|skip
   cases hb:b.qs[i].inst==n
   ·simp only [hb,bfe,if_false] at hs;simp only [go_sem,seval,hwi];refine RoundK.step () hi trivial ?_;simp only [go_sem,seval,hs]
   ·simp only [hb,if_true] at hs;simp only [go_sem,seval,hwi,ints_len,lml,hm];(with_reducible and_intros)<;>first|exact .dq|omega|skip
    refine RoundK.step () hi trivial ?_;simp only [go_sem,seval,hs]<;>simp [ints]
  ·intro _ hdx _
   have hbad:level1 n b.qs=false->levelB b.qs=false:=fun hx=>by
    cases hh:levelB b.qs
    ·rfl
    ·have:=List.all_eq_true.1 hh c (List.mem_range.2 hc);rw [<- hn,hx] at this;cases this
   have hr1:=hl1r n;simp only [go_sem,seval,hdx,lml,List.take_length];refine CallN.gen [] [] true (by simp) ?_;simp only [go_sem,seval];refine CallG.intro (hA n) ?_;cases b3:inR (sumL (qtysL n b.qs))
   ·have:=hbad (by rw [hr1,b3];rfl);simp only [go_sem,seval,b3,this,Bool.and_false]
   cases b4:addN (qtysL n b.qs)==0
   ·have:=hbad (by rw [hr1,b3,b4];rfl);simp only [go_sem,seval,bne,b3,b4,this,Bool.and_false]
   simp only [go_sem,seval,bne,b3,b4,hw];refine RoundK.step () hc ?_ ?_
   ·intro j hj;rcases Nat.lt_or_ge j c with h | h
    ·exact hC j h
    ·obtain rfl:j=c:=by omega
     rw [<- hn,hr1,b3,b4];rfl
   ·simp only [go_sem,seval]
 ·intro _ _ hC;have hlv:levelB b.qs=true:=List.all_eq_true.2 fun j hj=>hC j (List.mem_range.1 hj)
  rw [hlv,Bool.and_true];clear hC hlv hl1r hA;simp only [go_sem,seval];refine LoopK.count b.ts.length [1] [32] (fun i=>[(10,.int .i64 i)]) (fun i=>[]) (fun i=>∀ j < i,chAt (tradeOk b.next) tradeLt b.ts j=true) (by simp) ?_ ?_
  ·simp only [go_sem,seval]<;>simp
  intro i hi hI;simp only [go_sem,seval,lml];refine CondE.splitD (fun h=>?_) (fun h=>?_)
  ·have hi':i < b.ts.length:=by omega
   have hw:IntKind.wrap .i64 ((i:Int)+1)=((i+1:Nat):Int):=by rw [wr64 (by omega) (by omega)];omega
   have hm:=map_at (c:=TradeV.cells) b.ts hi';have h1:=refNumbers_spec b.ts[i];have h2:=within11_spec b.ts[i].no 1 b.next
   have e0:=ch_next (i:=i) hI;have e1:chAt (tradeOk b.next) tradeLt b.ts i=false->chB (tradeOk b.next) tradeLt b.ts=false:=fun hx=>chB_no hi' hx
   have hte:tradeOk b.next b.ts[i]=(b.ts[i].okB&&within b.ts[i].no 1 b.next):=by rw [Bool.eq_iff_iff];simp [tradeOk,within]
   simp only [TradeV.cells] at hm h1;rcases Nat.eq_zero_or_pos i with rfl | hpos
   ·have hk:=chAt_zero (ok:=tradeOk b.next) (lt:=tradeLt) hi';rw [hte] at hk;clear hte;simp only [go_sem,seval,hm,lml]
    repeat' with_reducible first|apply And.intro|exact .dq|refine CallN.pure (by assumption) ?_|refine CallN.pure (h1) ?_|refine CallN.pure (h2) ?_|refine .splitDN (fun h=>?_) fun h=>?_|refine .splitD (fun h=>?_) fun h=>?_|refine .splitN (fun h=>?_) fun h=>?_|refine .split (fun h=>?_) fun h=>?_|refine .id ?_|refine RoundK.next (by omega) ?_ ?_|exact trivial|simp only [*,go_sem,seval]
    all_goals first
     | omega
     | rfl
     | (refine e0 ?_;clear e0 e1;rw [hk];clear hk;simp_all;done)
     | (rw [e1 ?_];clear e0 e1;rw [hk];clear hk;simp_all;done)
   ·obtain ⟨j,rfl⟩:∃ j,i=j+1:=⟨i-1,by omega⟩
    have hj:j < b.ts.length:=by omega
    have hw1:IntKind.wrap .i64 (((j+1:Nat):Int)-1)=(j:Int):=by rw [wr64 (by omega) (by omega)];omega
    have hk:=chAt_succ (ok:=tradeOk b.next) (lt:=tradeLt) hi';rw [hte,tradeLt_eq] at hk;clear hte;have hmj:=map_at (c:=TradeV.cells) b.ts hj;simp only [TradeV.cells] at hmj;simp only [go_sem,seval,hm,lml]
    repeat' with_reducible first|apply And.intro|exact .dq|refine CallN.pure (by assumption) ?_|refine CallN.pure (h1) ?_|refine CallN.pure (h2) ?_|refine .splitDN (fun h=>?_) fun h=>?_|refine .splitD (fun h=>?_) fun h=>?_|refine .splitN (fun h=>?_) fun h=>?_|refine .split (fun h=>?_) fun h=>?_|refine .id ?_|refine RoundK.next (by omega) ?_ ?_|exact trivial|simp only [*,go_sem,seval,hmj,lml]
    all_goals first
     | omega
     | rfl
     | (refine e0 ?_;clear e0 e1;rw [hk];clear hk;simp_all;done)
     | (refine e0 ?_;clear e0 e1;rw [hk];clear hk;simp_all;omega)
     | (rw [e1 ?_];clear e0 e1;rw [hk];clear hk;simp_all;done)
     | (rw [e1 ?_];clear e0 e1;rw [hk];clear hk;simp_all;omega)
  ·have hT:=chB_yes (fun j (hj:j < b.ts.length)=>hI j (by omega));simp only [go_sem,seval,hT]
theorem refHeld_spec (r:RollV) (n:Int) (hl:r.small):Abs.Spec Tryz.prog 75 [] [.agg r.cells,.int .i64 n] [] (.tup [.agg (getL AssetV.a n ⟨0,0,0,0⟩ r.xs).cells,.bool (decide (0<=posL AssetV.a n r.xs))]):=by
 obtain ⟨l1,l2,l3⟩:=hl;simp only [RollV.cells];refine sgo 28 2 [.cell 4 125,.tmp 5] mixed Tryz.func75 ?_;simp only [go_sem,seval,lml];refine LoopK.walk (S:=Unit) r.xs.length [1,2,4] [48,80] (fun i _=>[(6,.int .i64 i)]) (fun i _=>[]) (fun i _=>∀ j (hj:j < r.xs.length),j < i->r.xs[j].a≠n) () (by intros;omega) ?_ ?_ ?_
 ·simp only [go_sem,seval]<;>simp
 ·intro i _ hi hdi hw hI;have hm:=map_at (c:=AssetV.cells) r.xs hi;have hlt:(i:Int) < (r.xs.length:Int):=by omega
  simp only [AssetV.cells] at hm |-;simp only [go_sem,seval,lml,hdi,hm];(with_reducible and_intros)<;>first|exact .dq|omega|skip
  cases hb:r.xs[i].a==n
  ·have hb2:r.xs[i].a≠n:=by simpa using hb
   simp only [go_sem,seval,hw];refine RoundK.step () hi ?_ ?_
   ·intro j hj hji;rcases Nat.lt_or_ge j i with h | h
    ·exact hI j hj h
    ·obtain rfl:j=i:=by omega
     exact hb2
   ·simp only [go_sem,seval]
  ·have hb2:r.xs[i].a=n:=by simpa using hb
   obtain ⟨g1,g2⟩:=getL_hit (z:=(⟨0,0,0,0⟩:AssetV)) hi hI hb2;have g3:decide (0<=(i:Int))=true:=decide_eq_true (by omega);rw [g1,g2,g3];simp only [go_sem,seval,hm,lml];(with_reducible and_intros)<;>first|exact .dq|omega|skip
 ·intro _ hdx hI;obtain ⟨g1,g2⟩:=getL_miss (z:=(⟨0,0,0,0⟩:AssetV)) (fun j hj=>hI j hj hj);rw [g1,g2];simp only [go_sem,seval,lml,hdx,AssetV.cells]
theorem ofL_rng {a:AcctV} {bs:List BalV} (h:∀ b∈bs,b.rng):I64 (ofL a bs):=by
 induction bs with
 | nil=>exact ⟨by simp [ofL],by simp [ofL]⟩
 | cons b r ih =>
  simp only [ofL];split
  ·exact (h b (by simp)).2.2.2
  ·exact ih fun b hb=>h b (by simp [hb])
theorem V_rng (a:AssetV) (n:Int):inR (a.V n)=true:=by
 simp only [AssetV.V];split
 ·unfold quoQ;split
  ·decide
  ·split
   ·assumption
   ·decide
 ·decide
theorem valsL_in (r:RollV) (w c:Int) (ps:List Plg):∀ n∈valsL r w c ps,inR n=true:=by
 intro n hn;simp only [valsL,List.mem_map] at hn;obtain ⟨x,_,rfl⟩:=hn;exact V_rng _ _
theorem led_of_in {l:LedV} (h:l.okB=true) (a:AcctV):inR (ofL a l.bs)=true:=by
 have h1:=(led_bs h).2;clear h;generalize l.bs=bs at h1
 induction bs with
 | nil=>rfl
 | cons b r ih =>
  simp only [ofL];split
  ·exact h1 b (by simp)
  ·exact ih fun z hz=>h1 z (by simp [hz])
theorem i64_of {n:Int} (h:inR n=true):I64 n:=by have:=inR_iff.1 h;exact ⟨by omega,by omega⟩
theorem refCover_spec (l:LedV) (r:RollV) (ps:List Plg) (w c:Int) (hl:l.bs.length < 2 ^ 29) (hr:r.small) (hp:ps.length < 2 ^ 29) (hb:∀ b∈l.bs,b.rng) :
  Abs.Spec Tryz.prog 294 [] [.agg l.cells,.agg r.cells,.sl 3 (pl ps),.int .i64 w,.int .i64 c] [] (.tup [.int .i64 (ofN l r ps w c),.int .i64 (ofE l r ps w c)]):=by
 have h1:=ref8Ledger_spec l (by omega) hb;have h2:=refRoll_spec r hr;have h3:=refPledges_spec ps (by omega);have h4:=ref8Of_spec l ⟨2,w,c⟩ (by omega);have h5:=fun n=>refHeld_spec r n hr
 simp only [LedV.cells,AcctV.cells] at h1 h4 |-;simp only [RollV.cells] at h2 h5 |-;refine sgo 97 5 [.tmp 10,.tmp 11] mixed Tryz.func294 ?_;simp only [go_sem,seval];refine CallN.pure h1 ?_;cases b1:l.okB
 ·have e:chk3 l r ps=14:=by simp [chk3,b1]
  have e1:ofE l r ps w c=14:=by simp [ofE,e]
  have e2:ofN l r ps w c=0:=by simp [ofN,e]
  simp only [go_sem,seval,e1,e2]
 simp only [go_sem,seval];refine CallN.pure h2 ?_;cases b2:r.okB
 ·have e:chk3 l r ps=14:=by simp [chk3,b2]
  have e1:ofE l r ps w c=14:=by simp [ofE,e]
  have e2:ofN l r ps w c=0:=by simp [ofN,e]
  simp only [go_sem,seval,e1,e2]
 simp only [go_sem,seval];refine CallN.pure h3 ?_;cases b3:checkB ps
 ·have e:chk3 l r ps=14:=by simp [chk3,b3]
  have e1:ofE l r ps w c=14:=by simp [ofE,e]
  have e2:ofN l r ps w c=0:=by simp [ofN,e]
  simp only [go_sem,seval,e1,e2]
 have e:chk3 l r ps=0:=by simp [chk3,b1,b2,b3]
 have e1:ofE l r ps w c=if firstE r w c ps != 0 then firstE r w c ps else sumE (ofL ⟨2,w,c⟩ l.bs :: valsL r w c ps):=by simp [ofE,e]
 have e2:ofN l r ps w c=if firstE r w c ps != 0 then 0 else sumN (ofL ⟨2,w,c⟩ l.bs :: valsL r w c ps):=by simp [ofN,e]
 rw [e1,e2];clear e1 e2 e;simp only [go_sem,seval];refine CallN.pure h4 ?_;have hoin:=led_of_in b1 ⟨2,w,c⟩;obtain ⟨o,ho⟩:=nmE (ofL ⟨2,w,c⟩ l.bs);rw [<- ho] at hoin |-;simp only [go_sem,seval];refine LoopK.walk (S:=Unit) ps.length [2,3,4,6] [112] (fun i _=>[(13,.int .i64 i),(12,.ref 1424)]) (fun i _=>[(1424,.own 1 (ints (o :: valsL r w c (ps.take i))))]) (fun i _=>firstE r w c (ps.drop i)=firstE r w c ps) () rfl ?_ ?_ ?_
 ·simp only [go_sem,seval]<;>simp [valsL,ints]
 ·intro i _ hi' hdi hw hI;have hstep:=valsL_step r w c ps hi';have hA:=h5 ps[i].asset;have hvl:=valsL_len r w c (ps.take i);have htl:(ps.take i).length=i:=by simp;omega
  have hli:(i:Int) < (ps.length:Int):=by omega
  rw [getD_pl hi'] at hI;simp only [firstE] at hI;obtain ⟨a,ha⟩:=nmE (astOf r ps[i]);have ha':getL AssetV.a ps[i].asset ⟨0,0,0,0⟩ r.xs=a:=ha.symm;rw [ha'] at hA;simp only [hitB,<- ha] at hI hstep;have hv:=refValue_spec a ps[i].units;simp only [AssetV.cells] at hA hv;clear h1 h2 h3 h4 h5;simp only [go_sem,seval,hdi,pl_at ps hi'];(with_reducible and_intros)<;>first|exact .dq|omega|skip
  refine CallN.pure hA ?_;cases p1:decide (0<=posL AssetV.a ps[i].asset r.xs)
  ·simp only [p1,Bool.false_and,bfe,if_false] at hI hstep;simp only [go_sem,seval,p1,hw];(with_reducible and_intros)<;>first|exact .dq|omega|skip
   refine RoundK.step () hi' hI ?_;simp only [go_sem,seval,hstep]
  cases p2:ps[i].who==w
  ·simp only [p1,p2,Bool.false_and,Bool.true_and,bfe,if_false] at hI hstep;simp only [go_sem,seval,p1,bne,p2,hw,pl_at ps hi'];(with_reducible and_intros)<;>first|exact .dq|omega|skip
   refine RoundK.step () hi' hI ?_;simp only [go_sem,seval,hstep]
  cases p3:a.b==c
  ·simp only [p1,p2,p3,Bool.false_and,Bool.and_false,Bool.true_and,bfe,if_false] at hI hstep;simp only [go_sem,seval,p1,bne,p2,p3,hw,pl_at ps hi'];(with_reducible and_intros)<;>first|exact .dq|omega|skip
   refine RoundK.step () hi' hI ?_;simp only [go_sem,seval,hstep]
  simp only [p1,p2,p3,Bool.true_and,Bool.and_self,if_true] at hI hstep;simp only [go_sem,seval,p1,bne,p2,p3,pl_at ps hi'];(with_reducible and_intros)<;>first|exact .dq|omega|skip
  refine CallN.pure hv ?_;cases p4:a.E ps[i].units==0
  ·have p4':(a.E ps[i].units != 0)=true:=by simp [bne,p4]
   simp only [p4',if_true] at hI;have hF:firstE r w c ps=a.E ps[i].units:=hI.symm;simp only [go_sem,seval,bne,p4,hF,Bool.not_false,if_true]
  ·have p4':(a.E ps[i].units != 0)=false:=by simp [bne,p4]
   simp only [p4',bfe,if_false] at hI;simp only [go_sem,seval,bne,p4,hw,ints_len];(with_reducible and_intros)<;>first|exact .dq|omega|skip
   refine RoundK.step () hi' hI ?_;simp only [go_sem,seval,hstep]<;>simp [ints]
 ·intro _ hdx hI;simp only [List.drop_length,firstE] at hI;have hlen:=valsL_len r w c ps
  have hall:∀ n∈o :: valsL r w c ps,inR n=true:=fun n hn=>by
   rcases List.mem_cons.1 hn with rfl | hn
   ·exact hoin
   ·exact valsL_in r w c ps n hn
  have hs:=refAdd_spec (o :: valsL r w c ps) (fun n hn=>i64_of (hall n hn)) (by simp;omega);have hright:=right_all hall;rw [<- hI];simp only [sumE,sumN,hright,if_true,Bool.true_and];simp only [go_sem,seval,hdx,List.take_length];refine CallN.gen [] [] true (by simp) ?_;simp only [go_sem,seval];refine CallG.intro hs ?_;cases hin:inR (sumL (o :: valsL r w c ps))
  ·simp only [go_sem,seval,hin]<;>simp
  ·simp only [go_sem,seval,hin,addN]<;>simp
theorem refShort_spec (s:StateV) (w c:Int) (hs:s.fit) (hr:s.rng) (hl:s.led.bs.length < 2 ^ 29) (hp:s.ps.length < 2 ^ 29):Abs.Spec Tryz.prog 241 [] [.agg s.cells,.int .i64 w,.int .i64 c] [] (.tup [.int .i64 (shN s w c),.int .i64 (shE s w c)]):=by
 obtain ⟨hro,hb,_,_⟩:=hs;have h1:=refCover_spec s.led s.roll s.ps w c hl hro hp hr.bs;have h2:=refBook_spec s.book hb hr.qs;have h3:=refMargin_spec s.roll w c s.book.qs hro hb.2;simp only [LedV.cells,RollV.cells,BookV.cells] at h1 h2 h3;simp only [StateV.cells,shN,shE];refine sgo 63 3 [.tmp 6,.tmp 7] mixed Tryz.func241 ?_;simp only [go_sem,seval];refine CallN.pure h1 ?_
 by_cases e1:ofE s.led s.roll s.ps w c=0
 case neg =>
  have b1:(ofE s.led s.roll s.ps w c==0)=false:=by simpa using e1
  simp only [go_sem,seval,bne,b1,if_neg e1]
 have hin1:=(of_ok e1).2.2.2;have hin3:=marN_range s.roll w c s.book.qs;have b1:(ofE s.led s.roll s.ps w c==0)=true:=by simpa using e1
 simp only [go_sem,seval,bne,b1,if_pos e1];refine CallN.pure h2 ?_;cases b2:s.book.okB
 ·simp only [go_sem,seval,b2]
 simp only [go_sem,seval,b2];refine CallN.pure h3 ?_
 by_cases e3:marE s.roll w c s.book.qs=0
 case neg =>
  have b3:(marE s.roll w c s.book.qs==0)=false:=by simpa using e3
  simp only [go_sem,seval,bne,b3,if_neg e3]
 have b3:(marE s.roll w c s.book.qs==0)=true:=by simpa using e3
 simp only [if_pos e3];obtain ⟨M,hM⟩:=nmE (marN s.roll w c s.book.qs);obtain ⟨C,hC⟩:=nmE (ofN s.led s.roll s.ps w c);rw [<- hC] at hin1 |-;rw [<- hM] at hin3 |-;have i1:=inR_iff.1 hin1;have i3:=inR_iff.1 hin3;have hw:IntKind.wrap .i64 (0-C) = -C:=by rw [wr64 (by omega) (by omega)];omega
 have hA:=refAdd_spec [M,-C] (by intro n hn;simp only [List.mem_cons,List.not_mem_nil,or_false] at hn;rcases hn with rfl | rfl<;>exact ⟨by omega,by omega⟩) (by simp);have hsum:sumL [M,-C]=M-C:=by simp [sumL];omega
 simp only [addN,hsum,ints,List.map_cons,List.map_nil] at hA;simp only [go_sem,seval,bne,b3,hw];refine CallN.gen [] [] true (by simp) ?_;simp only [go_sem,seval];refine CallG.intro hA ?_;simp only [lessE,lessN,hin1,hin3,Bool.true_and,Bool.and_self,if_true];cases hd:inR (M-C)
 ·by_cases e4:M<=C
  ·have d4:decide (C < M)=false:=decide_eq_false (by omega);simp only [go_sem,seval,hd,d4,if_pos e4,bfe,if_false]<;>simp
  ·have d4:decide (C < M)=true:=decide_eq_true (by omega);simp only [go_sem,seval,hd,d4,if_neg e4,bfe,if_false]
 ·by_cases e4:M<=C
  ·have hmax:max (M-C) 0=0:=by omega
   simp only [go_sem,seval,hd,hmax,if_pos e4]
  ·have hmax:max (M-C) 0=M-C:=by omega
   simp only [go_sem,seval,hd,hmax,if_neg e4]
deriving instance DecidableEq for MemberV,InstV,AssetV,BalV,AcctV
def FallV.ch (x:FallV):Nat->Int
 | 0=>x.c0 | 1=>x.c1 | 2=>x.c2 | 3=>x.c3 | _=>x.c4
end Go.Proofs.YtgnhdbdipfncgaaGreat
