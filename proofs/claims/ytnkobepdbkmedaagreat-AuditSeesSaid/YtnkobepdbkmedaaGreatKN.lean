/- One number is another one: the law. No theorem of a claim. -/
import Derived.Test.YtnkobepdbkmedaaGreatKL
import Derived.Test.YtnkobepdbkmedaaGreatKM
set_option linter.unusedSimpArgs false
set_option linter.unusedVariables false
namespace Go.Proofs.YtnkobepdbkmedaaGreat
open Go.Abs
theorem Qp (a:Int) {n:Nat} (h0:0 < n) (h1:n < 2 ^ 40):∃ k:Nat,k < n/\IntKind.wrap .i64 ((IntKind.wrap .u64 (IntKind.wrap .i64 (a.tdiv 2))).tmod (IntKind.wrap .u64 (n:Int)))=(k:Int):=by
 have e:IntKind.wrap .u64 (n:Int)=(n:Int):=by rw [IntKind.wrap_u64];omega
 rw [e];obtain ⟨m,hm⟩:=aL (IntKind.wrap .u64 (IntKind.wrap .i64 (a.tdiv 2)));have hm0:0<=m:=by rw [hm,IntKind.wrap_u64];omega
 rw [<- hm,Int.tmod_eq_emod_of_nonneg hm0];have h2:0<=m%(n:Int):=Int.emod_nonneg _ (by omega);have h3:m%(n:Int) < n:=Int.emod_lt_of_pos _ (by omega);exact ⟨(m%(n:Int)).toNat,by omega,by rw [bz (by omega) (by omega)];omega⟩
theorem Tu (s:af) (k:Nat) (n:Int):(zU s k n).aU.bs.map bp.cells=(s.aU.bs.map bp.cells).set k (wh (s.aU.bs.getD k ⟨0,0,0,0⟩) n).cells:=by
 simp [zU,List.map_set]
theorem S7 (s:af) (k:Nat) (n:Int):(Aj s k n).book.qs.map aA.cells=(s.book.qs.map aA.cells).set k (yP (s.book.qs.getD k ⟨0,0,0,0⟩) n).cells:=by
 simp [Aj,List.map_set]
theorem Oh {s:af} {k:Nat} (hk:k < s.aU.bs.length) {n:Int} (hn:n≠0):lq (parts s (zU s k n))=[⟨#[66,97,108,97,110,99,101,115]⟩]:=by
 have h:decide (s.aU.bs=(zU s k n).aU.bs)=false:=by
  refine decide_eq_false fun h=>hn ?_
  have h2:=congrArg (fun l=>l[k]?) h;simp only [zU,List.getElem?_set_self hk,List.getElem?_eq_getElem hk,Option.some.injEq] at h2;have h3:=congrArg bp.sum h2;have hg:s.aU.bs.getD k ⟨0,0,0,0⟩=s.aU.bs[k]:=by rw [List.getD_eq_getElem?_getD,List.getElem?_eq_getElem hk];rfl
  rw [hg] at h3;simp only [wh] at h3;omega
 simp only [lq,parts,Qt,h];simp [zU,List.filter]
theorem Oc {s:af} {k:Nat} (hk:k < s.book.qs.length) {n:Int} (hn:n≠0):lq (parts s (Aj s k n))=[⟨#[80,111,115,115]⟩]:=by
 have h:decide (s.book.qs=(Aj s k n).book.qs)=false:=by
  refine decide_eq_false fun h=>hn ?_
  have h2:=congrArg (fun l=>l[k]?) h;simp only [Aj,List.getElem?_set_self hk,List.getElem?_eq_getElem hk,Option.some.injEq] at h2;have h3:=congrArg aA.aV h2;have hg:s.book.qs.getD k ⟨0,0,0,0⟩=s.book.qs[k]:=by rw [List.getD_eq_getElem?_getD,List.getElem?_eq_getElem hk];rfl
  rw [hg] at h3;simp only [yP] at h3;omega
 simp only [lq,parts,Qt,h];simp [Aj,List.filter]
set_option maxHeartbeats 2000000 in
set_option maxRecDepth 8000 in
theorem DK (l:List aZ) (a b:Int) (ha:eW a) (hb:eW b):Abs.Spec Tryz.prog 3 [] [.sl 17 (l.map aZ.cells),.int .i64 a,.int .i64 b] [] (.bool true):=by
 have hwk:=Hw;rcases Nat.lt_or_ge 1000 l.length with hlen | hlen
 ·have d:decide ((1000:Int) < (l.length:Int))=true:=decide_eq_true (by omega);refine bg 113 3 [.tmp 6] mixed Tryz.func3 ?_;simp only [go_sem,seval,aG,d]
 have d:decide ((1000:Int) < (l.length:Int))=false:=decide_eq_false (by omega)
 by_cases b0:b=0
 ·have d0:(b==0)=true:=by simpa using b0
  refine bg 113 3 [.tmp 6] mixed Tryz.func3 ?_;simp only [go_sem,seval,aG,d,d0]
 have d0:(b==0)=false:=by simpa using b0
 by_cases b1:1099511627776 < b
 ·have d1:decide (1099511627776 < b)=true:=by simpa using b1
  refine bg 113 3 [.tmp 6] mixed Tryz.func3 ?_;simp only [go_sem,seval,aG,d,d0,d1]
 have d1:decide (1099511627776 < b)=false:=by simpa using b1
 by_cases b2:b < -1099511627776
 ·have d2:decide (b < -1099511627776)=true:=by simpa using b2
  refine bg 113 3 [.tmp 6] mixed Tryz.func3 ?_;simp only [go_sem,seval,aG,d,d0,d1,d2]
 have d2:decide (b < -1099511627776)=false:=by simpa using b2
 have hG:=KO l hlen;obtain ⟨hf,hp⟩:=QS l;obtain ⟨s,hs⟩:=aL (I8 l);rw [<- hs] at hG hf hp;clear hs;have hT:=kj s hf.good.small;have hls:=hf.right.lens;simp only [Ep,yg] at hT;simp only [af.cells] at hG hT;refine bg 113 3 [.tmp 6] mixed Tryz.func3 ?_;simp only [go_sem,seval,aG,d,d0,d1,d2];(with_reducible and_intros)<;>first|exact .dq|omega|skip
 refine aa.pure hG ?_;simp only [go_sem,seval];(with_reducible and_intros)<;>first|exact .dq|omega|skip
 refine aa.afA [(1,.int .i64 a),(2,.int .i64 b),(6,.bool false),(7,.addr 128 0),(29,.agg [.int .i64 s.now,.int .i64 s.day,.int .i64 s.phase,.ref 480,.ref 481,.ref 482,.int .i64 s.book.next,.ref 483,.ref 1136,.int .i64 s.aU.last,.ref 720,.ref 486,.ref 487,.ref 488,.ref 489])]
  [(128,.box [.int .i64 s.now,.int .i64 s.day,.int .i64 s.phase,.sl 3 (s.aj.ms.map ak.cells),.sl 12 (s.aj.ns.map aq.cells),.sl 4 (s.aj.xs.map av.cells),.int .i64 s.book.next,.sl 7 (s.book.ts.map aI.cells),.sl 4 (s.book.qs.map aA.cells),.int .i64 s.aU.last,.sl 4 (s.aU.bs.map bp.cells),.sl 3 (pl s.ps),.sl 4 (s.calls.map aB.cells),.sl 5 (s.aX.map bu.cells),.sl 7 (s.aJ.map bE.cells)]),
   (480,.own 3 (s.aj.ms.map ak.cells)),(481,.own 12 (s.aj.ns.map aq.cells)),(482,.own 4 (s.aj.xs.map av.cells)),(483,.own 7 (s.book.ts.map aI.cells)),(1136,.own 4 (s.book.qs.map aA.cells)),(720,.own 4 (s.aU.bs.map bp.cells)),(486,.own 3 (pl s.ps)),(487,.own 4 (s.calls.map aB.cells)),(488,.own 5 (s.aX.map bu.cells)),(489,.own 7 (s.aJ.map bE.cells))] [] [] false rfl ?_
 simp only [go_sem,seval];refine aY.intro hT ?_;simp only [go_sem,seval];(with_reducible and_intros)<;>first|exact .dq|omega|skip
 have hrng:=hf.right.cE hf.last hf.fit;have hlb:=hls.bs;have hlq:=hls.qs;have hlns:=hls.ns;have hHs:=NH hf hp
 by_cases z:a.tmod 2=0/\0 < s.aU.bs.length
 ·obtain ⟨z1,z2⟩:=z;have dz:(a.tmod 2==0)=true:=by simpa using z1
  have dl:decide (0 < (s.aU.bs.length:Int))=true:=decide_eq_true (by omega);obtain ⟨k,hk,hke⟩:=Qp a z2 (by omega);have hli:(k:Int) < (s.aU.bs.length:Int):=by omega
  have hbal:=(iT.1 hf.right.aU).2.1.1 _ (List.getElem_mem hk);simp only [jZ,bZ] at hbal;have hsum:=cm.1 hbal.2.1;have hw:IntKind.wrap .i64 (s.aU.bs[k].sum+b)=s.aU.bs[k].sum+b:=bz (by omega) (by omega);have hm:=aD (c:=bp.cells) s.aU.bs hk;have hD:=sw s (zU s k b) hf.good.small;rw [Oh hk b0] at hD;have hset:=Tu s k b;have hg:s.aU.bs.getD k ⟨0,0,0,0⟩=s.aU.bs[k]:=by rw [List.getD_eq_getElem?_getD,List.getElem?_eq_getElem hk];rfl
  rw [hg] at hset;obtain ⟨S,hS⟩:=aL (zU s k b);have hSb:S={ s with aU:=⟨s.aU.last,S.aU.bs⟩ }:=by rw [hS];rfl
  rw [<- hS] at hD hset;obtain ⟨bs2,hbs2⟩:∃ x,x=S.aU.bs:=⟨_,rfl⟩
  rw [<- hbs2] at hset hSb;rw [hSb] at hD;simp only [af.cells] at hD hHs;simp only [bp.cells,wh] at hm hset;obtain ⟨x,hx⟩:=aL (s.aU.bs[k]);rw [<- hx] at hw hm hset
  have hHS:Abs.Spec Tryz.prog 8 [] [.agg ({ s with aU:=⟨s.aU.last,bs2⟩ }:af).cells] [] (.bool false):=by
   have hlen2:bs2.length=s.aU.bs.length:=by rw [hbs2,hS];simp [zU]
   have hgs:=hf.good
   have e:=jC { s with aU:=⟨s.aU.last,bs2⟩ } ⟨⟨hgs.small.aj,hgs.small.book,by dsimp only;omega,hgs.small.ps,hgs.small.calls,hgs.small.aX,hgs.small.aJ,hgs.small.rs⟩,by dsimp only;omega,by dsimp only;omega,by dsimp only;omega⟩ (by dsimp only;omega) (by dsimp only;omega)
    ⟨hrng.now,hrng.day,hrng.phase,hrng.ms,hrng.ns,hrng.xs,hrng.next,hrng.ts,hrng.qs,hrng.last,fun y hy=>(by
     rw [hbs2,hS] at hy;rcases List.mem_or_eq_of_mem_set hy with hy | rfl
     ·exact hrng.bs y hy
     ·have h1:=hrng.bs _ (List.getElem_mem hk);rw [hg]
      exact ⟨h1.1,h1.2.1,h1.2.2.1,⟨by simp only [wh];omega,by simp only [wh];omega⟩⟩),hrng.ps,hrng.calls,hrng.aX,hrng.aJ⟩
   have e2:ir { s with aU:=⟨s.aU.last,bs2⟩ }=false:=by rw [hbs2,hS];exact Tv hf.right hk b0
   rwa [e2] at e
  simp only [af.cells] at hHS;have hnz:¬ IntKind.wrap .u64 (s.aU.bs.length:Int)=0:=by rw [IntKind.wrap_u64];omega
  simp only [go_sem,seval,dz,dl,aG,hke,hm,hw,Int.toNat_natCast,<- hset];(with_reducible and_intros)<;>first|exact .dq|omega|skip
  refine aa.gen [] [] true (by simp) ?_;simp only [go_sem,seval];refine aY.intro hD ?_;simp only [go_sem,seval,DA,List.map_cons,List.map_nil,List.length_cons,List.length_nil];(with_reducible and_intros)<;>first|exact .dq|omega|skip
  ·intro r hr d hd;simp only [List.mem_singleton] at hr;subst hr;simp only [List.mem_singleton] at hd;subst hd;trivial
  refine aa.gen [] [] true (by simp) ?_;simp only [go_sem,seval];refine aY.intro hHS ?_;simp only [go_sem,seval];(with_reducible and_intros)<;>first|exact .dq|omega|skip
  refine aa.pure hHs ?_;simp only [go_sem,seval];(with_reducible and_intros)<;>first|exact .dq|omega|skip
  refine aa.pure hwk ?_;simp only [go_sem,seval]
 have hz:((a.tmod 2==0)=false/\(a.tmod 2==0)=false)\/((a.tmod 2==0)=true/\decide (0 < (s.aU.bs.length:Int))=false):=by
  by_cases h1:a.tmod 2=0
  ·refine .inr ⟨by simpa using h1,decide_eq_false fun h2=>z ⟨h1,by omega⟩⟩
  ·exact .inl ⟨by simpa using h1,by simpa using h1⟩
 by_cases zq:0 < s.book.qs.length
 case neg =>
  have dq:decide (0 < (s.book.qs.length:Int))=false:=decide_eq_false (by omega);rcases hz with ⟨dz,dl⟩ | ⟨dz,dl⟩
  all_goals
   simp only [go_sem,seval,dz,dl,dq,aG];(with_reducible and_intros)<;>first|exact .dq|omega|skip
   refine aa.pure hwk ?_;simp only [go_sem,seval]
 case pos =>
  have dq:decide (0 < (s.book.qs.length:Int))=true:=decide_eq_true (by omega);obtain ⟨k,hk,hke⟩:=Qp a zq (by omega);have hli:(k:Int) < (s.book.qs.length:Int):=by omega
  have hsum:=(jE.1 ((dG.1 hf.right.book).ok _ (List.getElem_mem hk))).2.2.1;have hw:IntKind.wrap .i64 (s.book.qs[k].aV+b)=s.book.qs[k].aV+b:=bz (by omega) (by omega);have hm:=aD (c:=aA.cells) s.book.qs hk;have hD:=sw s (Aj s k b) hf.good.small;rw [Oc hk b0] at hD;have hset:=S7 s k b;have hg:s.book.qs.getD k ⟨0,0,0,0⟩=s.book.qs[k]:=by rw [List.getD_eq_getElem?_getD,List.getElem?_eq_getElem hk];rfl
  rw [hg] at hset;obtain ⟨S,hS⟩:=aL (Aj s k b);have hSb:S={ s with book:=⟨s.book.next,s.book.ts,S.book.qs⟩ }:=by rw [hS];rfl
  rw [<- hS] at hD hset;obtain ⟨bs2,hbs2⟩:∃ x,x=S.book.qs:=⟨_,rfl⟩
  rw [<- hbs2] at hset hSb;rw [hSb] at hD;simp only [af.cells] at hD hHs;simp only [aA.cells,yP] at hm hset;obtain ⟨x,hx⟩:=aL (s.book.qs[k]);rw [<- hx] at hw hm hset
  have hHS:Abs.Spec Tryz.prog 8 [] [.agg ({ s with book:=⟨s.book.next,s.book.ts,bs2⟩ }:af).cells] [] (.bool false):=by
   have hlen2:bs2.length=s.book.qs.length:=by rw [hbs2,hS];simp [Aj]
   have hgs:=hf.good
   have e:=jC { s with book:=⟨s.book.next,s.book.ts,bs2⟩ } ⟨⟨hgs.small.aj,⟨hgs.small.book.1,by dsimp only;omega⟩,hgs.small.aU,hgs.small.ps,hgs.small.calls,hgs.small.aX,hgs.small.aJ,hgs.small.rs⟩,by dsimp only;omega,by dsimp only;omega,by dsimp only;omega⟩ (by dsimp only;omega) (by dsimp only;omega)
    ⟨hrng.now,hrng.day,hrng.phase,hrng.ms,hrng.ns,hrng.xs,hrng.next,hrng.ts,fun y hy=>(by
     rw [hbs2,hS] at hy;rcases List.mem_or_eq_of_mem_set hy with hy | rfl
     ·exact hrng.qs y hy
     ·have h1:=hrng.qs _ (List.getElem_mem hk);rw [hg]
      exact ⟨h1.1,h1.2.1,⟨by simp only [yP];omega,by simp only [yP];omega⟩,h1.2.2.2⟩),hrng.last,hrng.bs,hrng.ps,hrng.calls,hrng.aX,hrng.aJ⟩
   have e2:ir { s with book:=⟨s.book.next,s.book.ts,bs2⟩ }=false:=by rw [hbs2,hS];exact Tn hf.right hk b0
   rwa [e2] at e
  simp only [af.cells] at hHS;have hnz:¬ IntKind.wrap .u64 (s.book.qs.length:Int)=0:=by rw [IntKind.wrap_u64];omega
  rcases hz with ⟨dz,dl⟩ | ⟨dz,dl⟩
  all_goals
   simp only [go_sem,seval,dz,dl,dq,aG,hke,hm,hw,Int.toNat_natCast,<- hset];(with_reducible and_intros)<;>first|exact .dq|omega|skip
   refine aa.gen [] [] true (by simp) ?_;simp only [go_sem,seval];refine aY.intro hD ?_;simp only [go_sem,seval,DA,List.map_cons,List.map_nil,List.length_cons,List.length_nil];(with_reducible and_intros)<;>first|exact .dq|omega|skip
   ·intro r hr d hd;simp only [List.mem_singleton] at hr;subst hr;simp only [List.mem_singleton] at hd;subst hd;trivial
   refine aa.gen [] [] true (by simp) ?_;simp only [go_sem,seval];refine aY.intro hHS ?_;simp only [go_sem,seval];(with_reducible and_intros)<;>first|exact .dq|omega|skip
   refine aa.pure hHs ?_;simp only [go_sem,seval];(with_reducible and_intros)<;>first|exact .dq|omega|skip
   refine aa.pure hwk ?_;simp only [go_sem,seval]
end Go.Proofs.YtnkobepdbkmedaaGreat
