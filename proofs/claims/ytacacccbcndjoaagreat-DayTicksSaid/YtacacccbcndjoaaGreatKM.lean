/- Slices made anew, and what follows. No theorem of a claim. -/
import Derived.Test.YtacacccbcndjoaaGreatKA
import Derived.Test.YtacacccbcndjoaaGreatKD
import Derived.Test.YtacacccbcndjoaaGreatKF
import Derived.Test.YtacacccbcndjoaaGreatKH
import Derived.Test.YtacacccbcndjoaaGreatKK
set_option linter.unusedSimpArgs false
set_option linter.unusedVariables false
set_option maxHeartbeats 4000000
set_option maxRecDepth 16000
namespace Go.Proofs.YtacacccbcndjoaaGreat
open Go.Abs
theorem rC (xs:List ak) (hl:xs.length < 2 ^ 30):Abs.Spec Tryz.prog 38 [] [.sl 3 (xs.map ak.cells)] [.own 3 (xs.map ak.cells)] (.ref 0):=by
 refine aU 8 1 [.tmp 2] mixed Tryz.func38 ?_;simp only [go_sem,seval,aI];refine gU.sO aeM rfl (by omega) ?_;intro b hb
 repeat' with_reducible first|apply And.intro|exact .dq|refine aa.pure (by assumption) ?_|refine .aH (fun h=>?_) fun h=>?_|refine .aF (fun h=>?_) fun h=>?_|refine .aK (fun h=>?_) fun h=>?_|refine .split (fun h=>?_) fun h=>?_|refine .id ?_|refine ah.next (by omega) ?_ ?_|exact trivial|simp only [*,go_sem,seval,aI]
 all_goals first
  | omega
  | (rw [hb (by assumption)])
  | skip
theorem xU (xs:List ak) (hl:xs.length < 2 ^ 30):Abs.Spec Tryz.prog 38 [] [.sl 3 (xs.map ak.cells)] [] (.sl 3 (xs.map ak.cells)):=by
 refine Spec.frozen (rC xs hl) [0] rfl ?_;intro r;rcases r with _ | r<;>rfl
theorem DV (xs:List ay) (hl:xs.length < 2 ^ 30):Abs.Spec Tryz.prog 39 [] [.sl 12 (xs.map ay.cells)] [.own 12 (xs.map ay.cells)] (.ref 0):=by
 refine aU 8 1 [.tmp 2] mixed Tryz.func39 ?_;simp only [go_sem,seval,aI];refine gU.sO aeW rfl (by omega) ?_;intro b hb
 repeat' with_reducible first|apply And.intro|exact .dq|refine aa.pure (by assumption) ?_|refine .aH (fun h=>?_) fun h=>?_|refine .aF (fun h=>?_) fun h=>?_|refine .aK (fun h=>?_) fun h=>?_|refine .split (fun h=>?_) fun h=>?_|refine .id ?_|refine ah.next (by omega) ?_ ?_|exact trivial|simp only [*,go_sem,seval,aI]
 all_goals first
  | omega
  | (rw [hb (by assumption)])
  | skip
theorem tc (xs:List ay) (hl:xs.length < 2 ^ 30):Abs.Spec Tryz.prog 39 [] [.sl 12 (xs.map ay.cells)] [] (.sl 12 (xs.map ay.cells)):=by
 refine Spec.frozen (DV xs hl) [0] rfl ?_;intro r;rcases r with _ | r<;>rfl
theorem CP (xs:List av) (hl:xs.length < 2 ^ 30):Abs.Spec Tryz.prog 40 [] [.sl 4 (xs.map av.cells)] [.own 4 (xs.map av.cells)] (.ref 0):=by
 refine aU 8 1 [.tmp 2] mixed Tryz.func40 ?_;simp only [go_sem,seval,aI];refine gU.sO ae3 rfl (by omega) ?_;intro b hb
 repeat' with_reducible first|apply And.intro|exact .dq|refine aa.pure (by assumption) ?_|refine .aH (fun h=>?_) fun h=>?_|refine .aF (fun h=>?_) fun h=>?_|refine .aK (fun h=>?_) fun h=>?_|refine .split (fun h=>?_) fun h=>?_|refine .id ?_|refine ah.next (by omega) ?_ ?_|exact trivial|simp only [*,go_sem,seval,aI]
 all_goals first
  | omega
  | (rw [hb (by assumption)])
  | skip
theorem rH (xs:List av) (hl:xs.length < 2 ^ 30):Abs.Spec Tryz.prog 40 [] [.sl 4 (xs.map av.cells)] [] (.sl 4 (xs.map av.cells)):=by
 refine Spec.frozen (CP xs hl) [0] rfl ?_;intro r;rcases r with _ | r<;>rfl
theorem Bl (xs:List aL) (hl:xs.length < 2 ^ 30):Abs.Spec Tryz.prog 41 [] [.sl 7 (xs.map aL.cells)] [.own 7 (xs.map aL.cells)] (.ref 0):=by
 refine aU 8 1 [.tmp 2] mixed Tryz.func41 ?_;simp only [go_sem,seval,aI];refine gU.sO afp rfl (by omega) ?_;intro b hb
 repeat' with_reducible first|apply And.intro|exact .dq|refine aa.pure (by assumption) ?_|refine .aH (fun h=>?_) fun h=>?_|refine .aF (fun h=>?_) fun h=>?_|refine .aK (fun h=>?_) fun h=>?_|refine .split (fun h=>?_) fun h=>?_|refine .id ?_|refine ah.next (by omega) ?_ ?_|exact trivial|simp only [*,go_sem,seval,aI]
 all_goals first
  | omega
  | (rw [hb (by assumption)])
  | skip
theorem zJ (xs:List aL) (hl:xs.length < 2 ^ 30):Abs.Spec Tryz.prog 41 [] [.sl 7 (xs.map aL.cells)] [] (.sl 7 (xs.map aL.cells)):=by
 refine Spec.frozen (Bl xs hl) [0] rfl ?_;intro r;rcases r with _ | r<;>rfl
theorem Gq (xs:List aA) (hl:xs.length < 2 ^ 30):Abs.Spec Tryz.prog 42 [] [.sl 4 (xs.map aA.cells)] [.own 4 (xs.map aA.cells)] (.ref 0):=by
 refine aU 8 1 [.tmp 2] mixed Tryz.func42 ?_;simp only [go_sem,seval,aI];refine gU.sO afI rfl (by omega) ?_;intro b hb
 repeat' with_reducible first|apply And.intro|exact .dq|refine aa.pure (by assumption) ?_|refine .aH (fun h=>?_) fun h=>?_|refine .aF (fun h=>?_) fun h=>?_|refine .aK (fun h=>?_) fun h=>?_|refine .split (fun h=>?_) fun h=>?_|refine .id ?_|refine ah.next (by omega) ?_ ?_|exact trivial|simp only [*,go_sem,seval,aI]
 all_goals first
  | omega
  | (rw [hb (by assumption)])
  | skip
theorem El (xs:List aA) (hl:xs.length < 2 ^ 30):Abs.Spec Tryz.prog 42 [] [.sl 4 (xs.map aA.cells)] [] (.sl 4 (xs.map aA.cells)):=by
 refine Spec.frozen (Gq xs hl) [0] rfl ?_;intro r;rcases r with _ | r<;>rfl
theorem xT (xs:List bJ) (hl:xs.length < 2 ^ 30):Abs.Spec Tryz.prog 43 [] [.sl 4 (xs.map bJ.cells)] [.own 4 (xs.map bJ.cells)] (.ref 0):=by
 refine aU 8 1 [.tmp 2] mixed Tryz.func43 ?_;simp only [go_sem,seval,aI];refine gU.sO agf rfl (by omega) ?_;intro b hb
 repeat' with_reducible first|apply And.intro|exact .dq|refine aa.pure (by assumption) ?_|refine .aH (fun h=>?_) fun h=>?_|refine .aF (fun h=>?_) fun h=>?_|refine .aK (fun h=>?_) fun h=>?_|refine .split (fun h=>?_) fun h=>?_|refine .id ?_|refine ah.next (by omega) ?_ ?_|exact trivial|simp only [*,go_sem,seval,aI]
 all_goals first
  | omega
  | (rw [hb (by assumption)])
  | skip
theorem xd (xs:List bJ) (hl:xs.length < 2 ^ 30):Abs.Spec Tryz.prog 43 [] [.sl 4 (xs.map bJ.cells)] [] (.sl 4 (xs.map bJ.cells)):=by
 refine Spec.frozen (xT xs hl) [0] rfl ?_;intro r;rcases r with _ | r<;>rfl
theorem Eb (xs:List au) (hl:xs.length < 2 ^ 30):Abs.Spec Tryz.prog 45 [] [.sl 4 (xs.map au.cells)] [.own 4 (xs.map au.cells)] (.ref 0):=by
 refine aU 8 1 [.tmp 2] mixed Tryz.func45 ?_;simp only [go_sem,seval,aI];refine gU.sO agm rfl (by omega) ?_;intro b hb
 repeat' with_reducible first|apply And.intro|exact .dq|refine aa.pure (by assumption) ?_|refine .aH (fun h=>?_) fun h=>?_|refine .aF (fun h=>?_) fun h=>?_|refine .aK (fun h=>?_) fun h=>?_|refine .split (fun h=>?_) fun h=>?_|refine .id ?_|refine ah.next (by omega) ?_ ?_|exact trivial|simp only [*,go_sem,seval,aI]
 all_goals first
  | omega
  | (rw [hb (by assumption)])
  | skip
theorem B2 (xs:List au) (hl:xs.length < 2 ^ 30):Abs.Spec Tryz.prog 45 [] [.sl 4 (xs.map au.cells)] [] (.sl 4 (xs.map au.cells)):=by
 refine Spec.frozen (Eb xs hl) [0] rfl ?_;intro r;rcases r with _ | r<;>rfl
theorem HT (xs:List bp) (hl:xs.length < 2 ^ 30):Abs.Spec Tryz.prog 46 [] [.sl 5 (xs.map bp.cells)] [.own 5 (xs.map bp.cells)] (.ref 0):=by
 refine aU 8 1 [.tmp 2] mixed Tryz.func46 ?_;simp only [go_sem,seval,aI];refine gU.sO aeL rfl (by omega) ?_;intro b hb
 repeat' with_reducible first|apply And.intro|exact .dq|refine aa.pure (by assumption) ?_|refine .aH (fun h=>?_) fun h=>?_|refine .aF (fun h=>?_) fun h=>?_|refine .aK (fun h=>?_) fun h=>?_|refine .split (fun h=>?_) fun h=>?_|refine .id ?_|refine ah.next (by omega) ?_ ?_|exact trivial|simp only [*,go_sem,seval,aI]
 all_goals first
  | omega
  | (rw [hb (by assumption)])
  | skip
theorem ED (xs:List bp) (hl:xs.length < 2 ^ 30):Abs.Spec Tryz.prog 46 [] [.sl 5 (xs.map bp.cells)] [] (.sl 5 (xs.map bp.cells)):=by
 refine Spec.frozen (HT xs hl) [0] rfl ?_;intro r;rcases r with _ | r<;>rfl
theorem GM (xs:List aN) (hl:xs.length < 2 ^ 30):Abs.Spec Tryz.prog 127 [] [.sl 3 (xs.map aN.cells)] [.own 3 (xs.map aN.cells)] (.ref 0):=by
 refine aU 8 1 [.tmp 2] mixed Tryz.func127 ?_;simp only [go_sem,seval,aI];refine gU.sO afm rfl (by omega) ?_;intro b hb
 repeat' with_reducible first|apply And.intro|exact .dq|refine aa.pure (by assumption) ?_|refine .aH (fun h=>?_) fun h=>?_|refine .aF (fun h=>?_) fun h=>?_|refine .aK (fun h=>?_) fun h=>?_|refine .split (fun h=>?_) fun h=>?_|refine .id ?_|refine ah.next (by omega) ?_ ?_|exact trivial|simp only [*,go_sem,seval,aI]
 all_goals first
  | omega
  | (rw [hb (by assumption)])
  | skip
theorem uB (xs:List aN) (hl:xs.length < 2 ^ 30):Abs.Spec Tryz.prog 127 [] [.sl 3 (xs.map aN.cells)] [] (.sl 3 (xs.map aN.cells)):=by
 refine Spec.frozen (GM xs hl) [0] rfl ?_;intro r;rcases r with _ | r<;>rfl
theorem DT (xs:List ck) (hl:xs.length < 2 ^ 30):Abs.Spec Tryz.prog 128 [] [.sl 8 (xs.map ck.cells)] [.own 8 (xs.map ck.cells)] (.ref 0):=by
 refine aU 8 1 [.tmp 2] mixed Tryz.func128 ?_;simp only [go_sem,seval,aI];refine gU.sO aeQ rfl (by omega) ?_;intro b hb
 repeat' with_reducible first|apply And.intro|exact .dq|refine aa.pure (by assumption) ?_|refine .aH (fun h=>?_) fun h=>?_|refine .aF (fun h=>?_) fun h=>?_|refine .aK (fun h=>?_) fun h=>?_|refine .split (fun h=>?_) fun h=>?_|refine .id ?_|refine ah.next (by omega) ?_ ?_|exact trivial|simp only [*,go_sem,seval,aI]
 all_goals first
  | omega
  | (rw [hb (by assumption)])
  | skip
theorem BA (xs:List ck) (hl:xs.length < 2 ^ 30):Abs.Spec Tryz.prog 128 [] [.sl 8 (xs.map ck.cells)] [] (.sl 8 (xs.map ck.cells)):=by
 refine Spec.frozen (DT xs hl) [0] rfl ?_;intro r;rcases r with _ | r<;>rfl
theorem DP (ps:List eW) (hl:ps.length < 2 ^ 30):Abs.Spec Tryz.prog 44 [] [.sl 3 (pl ps)] [] (.sl 3 (pl ps)):=by
 refine Spec.frozen (Mg ps hl) [0] rfl ?_;intro r;rcases r with _ | r<;>rfl
theorem wH (r:aq) (h:r.gZ):Abs.Spec Tryz.prog 51 [] [.agg r.cells] [.own 3 (r.ms.map ak.cells)] (.agg [.ref 0,.sl 12 (r.ns.map ay.cells),.sl 4 (r.xs.map av.cells)]):=by
 obtain ⟨h1,h2,h3⟩:=h;have c1:=rC r.ms h1;have c2:=tc r.ns h2;have c3:=rH r.xs h3;simp only [aq.cells];refine aU 13 1 [.cell 2 29] mixed Tryz.func51 ?_;simp only [go_sem,seval];(with_reducible and_intros)<;>first|exact .dq|omega|skip
 refine aa.gen [] [] false (by simp) ?_;simp only [go_sem,seval];refine bg.intro c1 ?_;simp only [go_sem,seval];(with_reducible and_intros)<;>first|exact .dq|omega|skip
 refine aa.pure c2 ?_;simp only [go_sem,seval];(with_reducible and_intros)<;>first|exact .dq|omega|skip
 refine aa.pure c3 ?_;simp only [go_sem,seval];(with_reducible and_intros)<;>first|exact .dq|omega|skip
def oc (x:bu):Prop:=x.r.Aa.length < 2 ^ 30/\x.r.falls.length < 2 ^ 30
theorem CB (l:List bu) (hl:l.length < 2 ^ 30) (hs:∀ x∈l,oc x):Abs.Spec Tryz.prog 47 [] [.sl 7 (l.map bu.cells)] [.own 7 (l.map bu.cells)] (.ref 0):=by
 refine aU 30 1 [.tmp 2] mixed Tryz.func47 ?_;simp only [go_sem,seval,aI];(with_reducible and_intros)<;>first|exact .dq|omega|skip
 refine aB.walk (S:=Unit) l.length [6,7] [128] (fun i _=>[(8,.int .i64 i),(3,.ref 448)]) (fun i _=>[(448,.own 7 ((l.take i).map bu.cells))]) (fun _ _=>True) () trivial ?_ ?_ ?_
 ·simp only [go_sem,seval]<;>simp
 ·intro i _ hi hdi hwi _;have hm:=aD (c:=bu.cells) l hi;obtain ⟨hd,hf⟩:=hs _ (List.getElem_mem hi);have hli:(i:Int) < (l.length:Int):=by omega
  have hst:(l.take (i+1)).map bu.cells=(l.take i).map bu.cells++[bu.cells l[i]]:=by rw [List.take_succ_eq_append_getElem hi,List.map_append];rfl
  have hlt:((l.take i).map bu.cells).length=i:=by simp;omega
  obtain ⟨x,hx⟩:=aO (l[i]);rw [<- hx] at hm hd hf hst;have c1:=uB x.r.Aa hd;have c2:=BA x.r.falls hf;obtain ⟨O,hO⟩:=aO ((l.take i).map bu.cells);rw [<- hO] at hst hlt |-;simp only [bu.cells] at hm hst;clear hx hO hs;simp only [go_sem,seval,aI,hdi,hm];(with_reducible and_intros)<;>first|exact .dq|omega|skip
  refine aa.pure c1 ?_;simp only [go_sem,seval];(with_reducible and_intros)<;>first|exact .dq|omega|skip
  refine aa.pure c2 ?_;simp only [go_sem,seval,hlt,hwi];(with_reducible and_intros)<;>first|exact .dq|omega|skip
  refine ah.step () hi trivial ?_;simp only [go_sem,seval,hst]
 ·intro _ hdx _;simp only [go_sem,seval,aI,hdx,List.take_length]
theorem zH (l:List bu) (hl:l.length < 2 ^ 30) (hs:∀ x∈l,oc x):Abs.Spec Tryz.prog 47 [] [.sl 7 (l.map bu.cells)] [] (.sl 7 (l.map bu.cells)):=by
 refine Spec.frozen (CB l hl hs) [0] rfl ?_;intro r;rcases r with _ | r<;>rfl
theorem wZ (s:af) (h:s.small) (hs:∀ x∈s.aM,oc x):Abs.Spec Tryz.prog 11 [] [.agg s.cells] [] (.agg s.cells):=by
 obtain ⟨h1,h2,h3⟩:=h.aj;have c1:=xU s.aj.ms h1;have c2:=tc s.aj.ns h2;have c3:=rH s.aj.xs h3;have c4:=zJ s.book.ts h.book.1;have c5:=El s.book.qs h.book.2;have c6:=xd s.bE.bs h.bE;have c7:=DP s.ps h.ps;have c8:=B2 s.calls h.calls;have c9:=ED s.aT h.aT;have c10:=zH s.aM h.aM hs;simp only [af.cells];refine aU 56 1 [.cell 2 42] mixed Tryz.func11 ?_;simp only [go_sem,seval];(with_reducible and_intros)<;>first|exact .dq|omega|skip
 refine aa.pure c1 ?_;simp only [go_sem,seval];(with_reducible and_intros)<;>first|exact .dq|omega|skip
 refine aa.pure c2 ?_;simp only [go_sem,seval];(with_reducible and_intros)<;>first|exact .dq|omega|skip
 refine aa.pure c3 ?_;simp only [go_sem,seval];(with_reducible and_intros)<;>first|exact .dq|omega|skip
 refine aa.pure c4 ?_;simp only [go_sem,seval];(with_reducible and_intros)<;>first|exact .dq|omega|skip
 refine aa.pure c5 ?_;simp only [go_sem,seval];(with_reducible and_intros)<;>first|exact .dq|omega|skip
 refine aa.pure c6 ?_;simp only [go_sem,seval];(with_reducible and_intros)<;>first|exact .dq|omega|skip
 refine aa.pure c7 ?_;simp only [go_sem,seval];(with_reducible and_intros)<;>first|exact .dq|omega|skip
 refine aa.pure c8 ?_;simp only [go_sem,seval];(with_reducible and_intros)<;>first|exact .dq|omega|skip
 refine aa.pure c9 ?_;simp only [go_sem,seval];(with_reducible and_intros)<;>first|exact .dq|omega|skip
 refine aa.pure c10 ?_;simp only [go_sem,seval]
theorem QT (n:Int) (xs:List au) (hl:xs.length < 2 ^ 30):Abs.Spec Tryz.prog 12 [] [.int .i64 n,.sl 4 (xs.map au.cells)] [.own 4 ((dQ n xs).map au.cells),.own 4 ((ij n xs).map au.cells)] (.bD [.ref 0,.ref 1]):=by
 refine aU 29 2 [.tmp 4,.tmp 5] mixed Tryz.func12 ?_;simp only [go_sem,seval,aI];(with_reducible and_intros)<;>first|exact .dq|omega|skip
 refine aB.walk (S:=Unit) xs.length [0,8,9] [160] (fun i _=>[(10,.int .i64 i),(4,.ref 352),(5,.ref 416)]) (fun i _=>[(352,.own 4 ((dQ n (xs.take i)).map au.cells)),(416,.own 4 ((ij n (xs.take i)).map au.cells))]) (fun _ _=>True) () trivial ?_ ?_ ?_
 ·simp only [go_sem,seval]<;>simp [dQ,ij]
 ·intro i _ hi hdi hwi _;have hm:=aD (c:=au.cells) xs hi;have hli:(i:Int) < (xs.length:Int):=by omega
  have hlt:(xs.take i).length=i:=by simp;omega
  have hA:dQ n (xs.take (i+1))=dQ n (xs.take i)++_:=fA _ hi;have hB:ij n (xs.take (i+1))=ij n (xs.take i)++_:=fA _ hi;have hAl:(dQ n (xs.take i)).length<=1*(xs.take i).length:=dZ (fun x=>by split<;>simp) _;have hBl:(ij n (xs.take i)).length<=1*(xs.take i).length:=dZ (fun x=>by split<;>simp) _;obtain ⟨L,hL⟩:=aO (dQ n (xs.take i));obtain ⟨M,hM⟩:=aO (ij n (xs.take i));obtain ⟨x,hx⟩:=aO (xs[i]);rw [<- hL] at hA hAl;rw [<- hM] at hB hBl;rw [<- hx] at hA hB hm;rw [<- hL,<- hM];simp only [au.cells] at hm
  by_cases q:x.till<=n
  ·have d:decide (x.till<=n)=true:=decide_eq_true q;rw [if_pos q] at hA hB;simp only [go_sem,seval,aI,hdi,hm,d,hwi];(with_reducible and_intros)<;>first|exact .dq|omega|skip
   refine ah.step () hi trivial ?_;simp only [go_sem,seval,hA,hB]<;>simp
  ·have d:decide (x.till<=n)=false:=decide_eq_false q;rw [if_neg q] at hA hB;simp only [go_sem,seval,aI,hdi,hm,d,hwi];(with_reducible and_intros)<;>first|exact .dq|omega|skip
   refine ah.step () hi trivial ?_;simp only [go_sem,seval,hA,hB]<;>simp
 ·intro _ hdx _;simp only [go_sem,seval,aI,hdx,List.take_length]
theorem NP (n:Int) (xs:List au) (hl:xs.length < 2 ^ 30):Abs.Spec Tryz.prog 12 [] [.int .i64 n,.sl 4 (xs.map au.cells)] [] (.bD [.sl 4 ((dQ n xs).map au.cells),.sl 4 ((ij n xs).map au.cells)]):=by
 refine Spec.frozen (QT n xs hl) [0,1] rfl ?_;intro r;rcases r with _ | _ | r<;>rfl
theorem Jp (xs:List au) (ws:List Int) (hl:xs.length < 2 ^ 30) (hs:ws.length < 2 ^ 30):Abs.Spec Tryz.prog 13 [] [.sl 4 (xs.map au.cells),.sl 1 (ints ws)] [.own 4 ((bM xs ws).map au.cells)] (.ref 0):=by
 refine aU 26 2 [.tmp 4] mixed Tryz.func13 ?_;simp only [go_sem,seval,aI];(with_reducible and_intros)<;>first|exact .dq|omega|skip
 refine aB.walk (S:=Unit) xs.length [1,8,9] [160] (fun i _=>[(10,.int .i64 i),(5,.ref 384)]) (fun i _=>[(384,.own 4 ((bM (xs.take i) ws).map au.cells))]) (fun _ _=>True) () trivial ?_ ?_ ?_
 ·simp only [go_sem,seval]<;>simp [bM]
 ·intro i _ hi hdi hwi _;have hm:=aD (c:=au.cells) xs hi;have hli:(i:Int) < (xs.length:Int):=by omega
  have hlt:(xs.take i).length=i:=by simp;omega
  have hA:bM (xs.take (i+1)) ws=bM (xs.take i) ws++_:=fA _ hi;have hAl:(bM (xs.take i) ws).length<=1*(xs.take i).length:=dZ (fun x=>by split<;>simp) _;obtain ⟨L,hL⟩:=aO (bM (xs.take i) ws);obtain ⟨x,hx⟩:=aO (xs[i]);rw [<- hL] at hA hAl |-;rw [<- hx] at hA hm;have hC:=Eo ws x.who (by omega);simp only [au.cells] at hm;simp only [go_sem,seval,aI,hdi,hm];(with_reducible and_intros)<;>first|exact .dq|omega|skip
  refine aa.pure hC ?_;cases q:qg ws x.who
  ·rw [q] at hA;simp only [ir,if_false] at hA;simp only [go_sem,seval,aI,hwi];(with_reducible and_intros)<;>first|exact .dq|omega|skip
   refine ah.step () hi trivial ?_;simp only [go_sem,seval,hA]<;>simp
  ·rw [q] at hA;simp only [if_true,List.append_nil] at hA;simp only [go_sem,seval,hwi];(with_reducible and_intros)<;>first|exact .dq|omega|skip
   refine ah.step () hi trivial ?_;simp only [go_sem,seval,hA]
 ·intro _ hdx _;simp only [go_sem,seval,aI,hdx,List.take_length]
theorem Hw (xs:List au) (ws:List Int) (hl:xs.length < 2 ^ 30) (hs:ws.length < 2 ^ 30):Abs.Spec Tryz.prog 13 [] [.sl 4 (xs.map au.cells),.sl 1 (ints ws)] [] (.sl 4 ((bM xs ws).map au.cells)):=by
 refine Spec.frozen (Jp xs ws hl hs) [0] rfl ?_;intro r;rcases r with _ | r<;>rfl
theorem AK (ms:List ak) (x:ak) {k:Nat} (hk:k < ms.length) (hlt:∀ i (h:i < k),(ms[i]'(by omega)).no < x.no) (he:ms[k].no=x.no) (hl:ms.length < 2 ^ 30):Abs.Spec Tryz.prog 52 [.own 3 (ms.map ak.cells)] [.ref 0,.fn 53 [],.agg x.cells] [.own 3 ((ms.set k x).map ak.cells)] (.ref 0):=by
 have hN:=fun y=>lT y
 have hset:(ms.set k x).map ak.cells=(ms.map ak.cells).set k x.cells:=by rw [List.map_set]
 rw [hset];simp only [ak.cells] at hN |-;refine aU 52 3 [.tmp 6] mixed Tryz.func52 ?_;simp only [go_sem,seval];(with_reducible and_intros)<;>first|exact .dq|omega|skip
 refine aB.walk (S:=Unit) k [0,1,5] [0,96] (fun i _=>[(7,.int .i64 i)]) (fun _ _=>[]) (fun _ _=>True) () trivial ?_ ?_ ?_
 ·simp only [go_sem,seval]
 ·intro i _ hi _ hwi _;have hi':i < ms.length:=by omega
  have hm:=aD (c:=ak.cells) ms hi';have hli:(i:Int) < (ms.length:Int):=by omega
  have hdi:decide ((i:Int) < (ms.length:Int))=true:=decide_eq_true hli;have hd:decide ((ms[i]'hi').no < x.no)=true:=decide_eq_true (hlt i hi);have h1:=hN (ms[i]'hi');have h2:=hN x;obtain ⟨y,hy⟩:=aO (ms[i]'hi');rw [<- hy] at hm hd h1;simp only [ak.cells] at hm;simp only [go_sem,seval,aI,hdi,hm];(with_reducible and_intros)<;>first|exact .dq|omega|skip
  refine aa.pure h1 ?_;simp only [go_sem,seval];(with_reducible and_intros)<;>first|exact .dq|omega|skip
  refine aa.pure h2 ?_;simp only [go_sem,seval,hd,hwi];(with_reducible and_intros)<;>first|exact .dq|omega|skip
  refine ah.step () hi trivial ?_;simp only [go_sem,seval]
 ·intro _ _ _;have hm:=aD (c:=ak.cells) ms hk;have hlk:(k:Int) < (ms.length:Int):=by omega
  have hdk:decide ((k:Int) < (ms.length:Int))=true:=decide_eq_true hlk;have hd:decide (ms[k].no < x.no)=false:=decide_eq_false (by omega);have hq:(ms[k].no==x.no)=true:=by simpa using he
  have h1:=hN ms[k];have h2:=hN x;obtain ⟨y,hy⟩:=aO (ms[k]);rw [<- hy] at hm hd hq h1;simp only [ak.cells] at hm;simp only [go_sem,seval,aI,hdk,hm];(with_reducible and_intros)<;>first|exact .dq|omega|skip
  refine aa.pure h1 ?_;simp only [go_sem,seval];(with_reducible and_intros)<;>first|exact .dq|omega|skip
  refine aa.pure h2 ?_;simp only [go_sem,seval,hd];refine fm.id ?_;simp only [go_sem,seval,aI,hdk,hm];(with_reducible and_intros)<;>first|exact .dq|omega|skip
  refine aa.pure h1 ?_;simp only [go_sem,seval];(with_reducible and_intros)<;>first|exact .dq|omega|skip
  refine aa.pure h2 ?_;simp only [go_sem,seval,hq,aI];(with_reducible and_intros)<;>first|exact .dq|omega|skip
  rw [hm];rfl
theorem IA (r:aq) (w:Int) (h:r.gZ) (hb:r.okB=true) (hi:eo r w=true):Abs.Spec Tryz.prog 14 [] [.agg r.cells,.int .i64 w,.int .i64 2] [.own 3 ((gp r w 2).ms.map ak.cells)] (.bD [.agg [.ref 0,.sl 12 ((gp r w 2).ns.map ay.cells),.sl 4 ((gp r w 2).xs.map av.cells)],.int .i64 0]):=by
 obtain ⟨x,hx,hn⟩:=tP.1 hi;have hpw:=(dB.1 hb).1.2;have hmo:eV r w=x:=uh hpw hx hn;obtain ⟨k,hk,hkx⟩:=List.getElem_of_mem hx
 have hlt:∀ i (h:i < k),(r.ms[i]'(by omega)).no < (x.put 2).no:=fun i hik=>by
  have:=List.pairwise_iff_getElem.1 hpw i k (by omega) hk hik;rw [hkx] at this;exact this
 have hP:gp r w 2=⟨r.ms.set k (x.put 2),r.ns,r.xs⟩:=by
  have e:vV r w 2=0:=by simp [vV,hb,hi,within]
  rw [gp,if_pos e,wj hk (fun j hj hjk he=>by have:=hlt j hjk;have:(x.put 2).no=x.no:=rfl;omega) (by rw [hkx];exact hn),hkx]
 rw [hP];have c1:=nV r h.small;have c2:=rD r w h.small;have c3:=eU 2 1 3;have c4:=wH r h;have c5:=AK r.ms (x.put 2) hk hlt (by rw [hkx];rfl) h.1;rw [hb] at c1;rw [hmo,hi] at c2;rw [show within 2 1 3=true from rfl] at c3;obtain ⟨M,hM⟩:=aO ((r.ms.set k (x.put 2)).map ak.cells);rw [<- hM] at c5 |-;simp only [if_true] at c1;simp only [aq.cells,ak.cells,ak.put] at c1 c2 c4 c5 |-;refine aU 43 3 [.cell 6 29,.tmp 7] mixed Tryz.func14 ?_;simp only [go_sem,seval];(with_reducible and_intros)<;>first|exact .dq|omega|skip
 refine aa.pure c1 ?_;simp only [go_sem,seval];(with_reducible and_intros)<;>first|exact .dq|omega|skip
 refine aa.pure c2 ?_;simp only [go_sem,seval];(with_reducible and_intros)<;>first|exact .dq|omega|skip
 refine aa.pure c3 ?_;simp only [go_sem,seval];(with_reducible and_intros)<;>first|exact .dq|omega|skip
 refine aa.gen [] [] false (by simp) ?_;simp only [go_sem,seval];refine bg.intro c4 ?_;simp only [go_sem,seval];(with_reducible and_intros)<;>first|exact .dq|omega|skip
 refine aa.gen [] [592] false (by simp) ?_;simp only [go_sem,seval];refine bg.intro c5 ?_;simp only [go_sem,seval]
theorem HY (r:aq) (w:Int) (h:r.gZ) (hb:r.okB=true) (hi:eo r w=true):Abs.Spec Tryz.prog 14 [] [.agg r.cells,.int .i64 w,.int .i64 2] [] (.bD [.agg (gp r w 2).cells,.int .i64 0]):=by
 refine Spec.frozen (IA r w h hb hi) [0] rfl ?_;intro r;rcases r with _ | r<;>rfl
theorem ER:∀ (l:List au) (r:aq) (a b:List au),(eL l (r,a)).1=(eL l (r,b)).1
 | [],_,_,_=>rfl
 | c :: t,r,a,b=>ER t _ _ _
def FF (l:List au) (c:au):Bool:=l.any fun x=>x.who==c.who
theorem zO (xs:List au) (w:Int):bM xs [w]=xs.filter fun c=>!(c.who==w):=by
 induction xs with
 | nil=>rfl
 | cons x r ih =>
  rw [show bM (x :: r) [w]=(if qg [w] x.who then [] else [x])++bM r [w] from rfl,ih,GI]
  by_cases q:x.who=w
  ·simp [q]
  ·have:(x.who==w)=false:=by simpa using q
   simp [q,this]
theorem rz:∀ (l:List au) (r:aq) (a:List au),(eL l (r,a)).2=a.filter fun c=>!FF l c
 | [],_,a=>by
  rw [eL];exact (List.filter_eq_self.2 (by simp [FF])).symm
 | x :: t,r,a=>by
  rw [eL,rz t];simp only [zO,List.filter_filter];congr 1
  funext c
  simp only [FF,List.any_cons,Bool.not_or];rw [Bool.and_comm,Bool.beq_comm]
theorem Qk {r:aq} (n:Int) (xs:List au):(eL (dQ n xs) (r,ij n xs)).2=(eL (dQ n xs) (r,xs)).2:=by
 rw [rz,rz]
 have hB:ij n xs=xs.filter fun c=>!decide (c.till<=n):=by
  induction xs with
  | nil=>rfl
  | cons x t ih =>
   rw [show ij n (x :: t)=(if x.till<=n then [] else [x])++ij n t from rfl,ih]
   by_cases q:x.till<=n<;>simp [q]
 rw [hB,List.filter_filter];refine List.filter_congr fun c hc=>?_
 cases hg:FF (dQ n xs) c
 ·have:decide (c.till<=n)=false:=by
   refine decide_eq_false fun hle=>?_
   have:FF (dQ n xs) c=true:=by
    refine List.any_eq_true.2 ⟨c,List.mem_flatMap.2 ⟨c,hc,by rw [if_pos hle];simp⟩,by simp⟩
   rw [hg] at this;cases this
  simp [this]
 ·simp
theorem IL (s:af) (n:Int) (hr:s.right) (hs:s.small) (hseat:∀ x∈s.aM,oc x) (hn:fy n):Abs.Spec Tryz.prog 5 [] [.agg s.cells,.int .i64 n] [.own 3 ((jk s n).map aN.cells)] (.bD [.agg (cE s n).cells,.ref 0,.int .i64 (dL s n)]):=by
 have c1:=rI s hs;have hrs:=eg.2 hr;rw [hrs] at c1;simp only [if_true] at c1;have hE:dL s n=if within n 1 1000 then (if 1099511627776 < s.now+n then 1 else 0) else 3:=by rw [dL,hrs];rfl
 have hclk:=hr.Ii;simp only [af.cells] at c1 |-;refine aU 91 2 [.cell 4 42,.tmp 5,.tmp 6] mixed Tryz.func5 ?_;simp only [go_sem,seval];(with_reducible and_intros)<;>first|exact .dq|omega|skip
 refine aa.pure c1 ?_
 by_cases w1:n < 1
 ·have d1:decide (n < 1)=true:=decide_eq_true w1;have e:dL s n=3:=by rw [hE,if_neg];simp [within];omega
  have e2:cE s n=.zero:=by rw [cE,if_neg (by omega)]
  have e3:jk s n=[]:=by rw [jk,if_neg (by omega)]
  rw [e,e2,e3];simp only [go_sem,seval,d1]<;>simp [af.zero,pl]
 have d1:decide (n < 1)=false:=decide_eq_false w1
 by_cases w2:1000 < n
 ·have d2:decide (1000 < n)=true:=decide_eq_true w2;have e:dL s n=3:=by rw [hE,if_neg];simp [within];omega
  have e2:cE s n=.zero:=by rw [cE,if_neg (by omega)]
  have e3:jk s n=[]:=by rw [jk,if_neg (by omega)]
  rw [e,e2,e3];simp only [go_sem,seval,d1,d2]<;>simp [af.zero,pl]
 have d2:decide (1000 < n)=false:=decide_eq_false w2;have hw0:IntKind.wrap .i64 (1099511627776-n)=1099511627776-n:=bz (by omega) (by omega)
 by_cases w3:1099511627776-n < s.now
 ·have d3:decide (1099511627776-n < s.now)=true:=decide_eq_true w3;have e:dL s n=1:=by rw [hE,if_pos (by simp [within];omega),if_pos (by omega)]
  have e2:cE s n=.zero:=by rw [cE,if_neg (by omega)]
  have e3:jk s n=[]:=by rw [jk,if_neg (by omega)]
  rw [e,e2,e3];simp only [go_sem,seval,d1,d2,hw0,d3]<;>simp [af.zero,pl]
 have d3:decide (1099511627776-n < s.now)=false:=decide_eq_false w3;have e:dL s n=0:=by rw [hE,if_pos (by simp [within];omega),if_neg (by omega)]
 have c2:=wZ s hs hseat;have c3:=NP (s.now+n) s.calls hs.calls
 have e2:cE s n={ s with now:=s.now+n,aj:=(eL (dQ (s.now+n) s.calls) (s.aj,ij (s.now+n) s.calls)).1,calls:=(eL (dQ (s.now+n) s.calls) (s.aj,ij (s.now+n) s.calls)).2 }:=by
  rw [cE,if_pos e,Qk,ER _ _ s.calls (ij (s.now+n) s.calls)]
 have e3:jk s n=(dQ (s.now+n) s.calls).map au.due:=by rw [jk,if_pos e]
 have hst:∀ c∈dQ (s.now+n) s.calls,bq s.aj c.who≠0:=fun c hc=>by
  obtain ⟨x,hx,hc⟩:=List.mem_flatMap.1 hc;split at hc
  ·obtain rfl:=List.mem_singleton.1 hc;have:=hr.known.cs _ hx;omega
  ·cases hc
 have hla:(dQ (s.now+n) s.calls).length<=1*s.calls.length:=dZ (fun x=>by split<;>simp) _;have hlb:(ij (s.now+n) s.calls).length<=1*s.calls.length:=dZ (fun x=>by split<;>simp) _;have hsc:=hs.calls;have hrt:=hs.aj;rw [e,e2,e3];obtain ⟨l,hl⟩:=aO (dQ (s.now+n) s.calls);obtain ⟨b,hb⟩:=aO (ij (s.now+n) s.calls);obtain ⟨N,hN⟩:=aO (s.now+n);have hw1:IntKind.wrap .i64 (s.now+n)=N:=by rw [hN];exact bz (by omega) (by omega)
 rw [<- hN] at c3 hl hb |-;rw [<- hl,<- hb] at c3;rw [<- hN,<- hl] at hst hla;rw [<- hN,<- hb] at hlb;rw [<- hl,<- hb];obtain ⟨R,hR⟩:=aO (eL l (s.aj,b));rw [<- hR];simp only [af.cells,aq.cells] at c2 |-;clear hE hrs e e2 e3 c1 hl hb w1 w2 w3;simp only [go_sem,seval,d1,d2,hw0,d3];(with_reducible and_intros)<;>first|exact .dq|omega|skip
 refine aa.pure c2 ?_;simp only [go_sem,seval,hw1];(with_reducible and_intros)<;>first|exact .dq|omega|skip
 refine aa.pure c3 ?_;simp only [go_sem,seval,aI];(with_reducible and_intros)<;>first|exact .dq|omega|skip
 refine aB.walk (S:=aq × List au) l.length [4,8,55,56] [80,848,912] (fun i x=>[(57,.int .i64 i),(11,.ref 1056),(10,.sl 4 (x.2.map au.cells))])
  (fun i x=>[(1056,.own 3 (((l.take i).map au.due).map aN.cells)),(144,.box [.int .i64 N,.int .i64 s.day,.int .i64 s.phase,.sl 3 (x.1.ms.map ak.cells),.sl 12 (x.1.ns.map ay.cells),.sl 4 (x.1.xs.map av.cells),.int .i64 s.book.next,.sl 7 (s.book.ts.map aL.cells),.sl 4 (s.book.qs.map aA.cells),.int .i64 s.bE.last,.sl 4 (s.bE.bs.map bJ.cells),.sl 3 (pl s.ps),.sl 4 (s.calls.map au.cells),.sl 5 (s.aT.map bp.cells),.sl 7 (s.aM.map bu.cells)])])
  (fun i x=>eL (l.drop i) x=R/\x.1.gZ/\x.2.length < 2 ^ 30/\x.1.okB=true/\∀ c∈l.drop i,bq x.1 c.who≠0) (s.aj,b) ⟨hR.symm,hrt,by show b.length < 2 ^ 30;omega,hr.aj,hst⟩ ?_ ?_ ?_
 ·simp only [go_sem,seval]<;>simp
 ·intro i x hi hdi hwi hI;obtain ⟨r,cs⟩:=x;obtain ⟨i1,i2,i3,i4,i5⟩:=hI;simp only at i2 i3 i4;have hm:=aD (c:=au.cells) l hi;have hli:(i:Int) < (l.length:Int):=by omega
  rw [List.drop_eq_getElem_cons hi] at i1 i5;have hsi:=i5 _ (List.mem_cons_self ..);have hst2:((l.take (i+1)).map au.due).map aN.cells=((l.take i).map au.due).map aN.cells++[aN.cells l[i].due]:=by rw [List.take_succ_eq_append_getElem hi,List.map_append,List.map_append];rfl
  have hdl:(((l.take i).map au.due).map aN.cells).length=i:=by simp;omega
  obtain ⟨y,hy⟩:=aO (l[i]);rw [<- hy] at hm i1 i5 hsi hst2;obtain ⟨O,hO⟩:=aO (((l.take i).map au.due).map aN.cells);rw [<- hO] at hst2 hdl |-;have c4:=Hw cs [y.who] i3 (by simp);have c5:=HY r y.who i2 i4 ((Hi i4).1 hsi);have hpe:=nx i4 hsi (p:=2) (by omega);obtain ⟨p1,p2,_⟩:=vp hpe;simp only [eL] at i1
  have hI2:eL (l.drop (i+1)) (gp r y.who 2,bM cs [y.who])=R/\(gp r y.who 2).gZ/\(bM cs [y.who]).length < 2 ^ 30/\(gp r y.who 2).okB=true/\∀ c∈l.drop (i+1),bq (gp r y.who 2) c.who≠0:=
   ⟨i1,FZ i2 _ _,Nat.lt_of_le_of_lt (xk _ _) i3,p1,fun c hc=>by
    rw [p2];split
    ·decide
    ·exact i5 c (List.mem_cons_of_mem _ hc)⟩
  simp only [au.cells] at hm;simp only [ints,List.map_cons,List.map_nil,aq.cells] at c4 c5;simp only [au.due,aN.cells] at hst2;obtain ⟨W,hW⟩:=aO (bM cs [y.who]);obtain ⟨P,hP⟩:=aO (gp r y.who 2);rw [<- hW] at c4 hI2;rw [<- hP] at c5 hI2;clear hy hO hW hP i1 i5 p1 p2 hpe;simp only [go_sem,seval,aI,hdi,hm];(with_reducible and_intros)<;>first|exact .dq|omega|skip
  refine aa.gen [1136] [] false (by simp) ?_;simp only [go_sem,seval];refine bg.intro c4 ?_;simp only [go_sem,seval];(with_reducible and_intros)<;>first|exact .dq|omega|skip
  refine aa.pure c5 ?_;simp only [go_sem,seval,hwi];(with_reducible and_intros)<;>first|exact .dq|omega|skip
  refine ah.step (P,W) hi ?_ ?_
  ·exact hI2
  simp only [go_sem,seval,hst2]
 ·intro x hdx hI;obtain ⟨r,cs⟩:=x;obtain ⟨i1,_⟩:=hI;rw [List.drop_length] at i1;simp only [eL] at i1;rw [<- i1];simp only [go_sem,seval,aI,hdx,List.take_length]
theorem ni (s:af) (n:Int) (hr:s.right) (hs:s.small) (hseat:∀ x∈s.aM,oc x) (hn:fy n):Abs.Spec Tryz.prog 5 [] [.agg s.cells,.int .i64 n] [] (.bD [.agg (cE s n).cells,.sl 3 ((jk s n).map aN.cells),.int .i64 (dL s n)]):=by
 refine Spec.frozen (IL s n hr hs hseat hn) [0] rfl ?_;intro r;rcases r with _ | r<;>rfl
end Go.Proofs.YtacacccbcndjoaaGreat
