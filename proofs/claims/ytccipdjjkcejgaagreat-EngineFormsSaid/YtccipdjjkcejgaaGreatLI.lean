/- Layer 25: what a kind does not name. No theorem of a claim. -/
import Derived.Test.YtccipdjjkcejgaaGreatKZ
set_option linter.unusedSimpArgs false
set_option linter.unusedVariables false
namespace Go.Proofs.YtccipdjjkcejgaaGreat
open Go.Abs Tryz
theorem Vg {k:Int} (h:¬ (1<=k/\k<=22)):dJ k=⟨#[]⟩:=by
 unfold dJ;rcases Int.lt_or_le k 1 with h1 | h1
 ·have e:k.toNat=0:=ah
  rw [e];rfl
 ·have e:23<=k.toNat:=ah
  rw [List.getD_eq_getElem?_getD,List.getElem?_eq_none (by simpa [Gl] using e)];rfl
theorem MO (k:Int):Sq 45 [] [.I k] [] (.str (dJ k)):=by
 by_cases h:1<=k/\k<=22
 ·exact wg k h
 ·rw [Vg h];refine bf 17 1 [.tmp 2] mixed func45 ?_;rcases Int.lt_or_le k 1 with h1 | h1
  ·have d:decide (k < 1)=true:=dI h1;refine sm d ?_;all_goals simp
  ·have d:decide (k < 1)=false:=jL;have a:decide (23<=k)=true:=iC;refine sm (a2 d a) ?_;all_goals simp
def yh (c:aN) (b n:Int):aN:=
 if b=119 then { c with who:=n } else if b=111 then { c with other:=n } else if b=110 then { c with no:=n } else if b=105 then { c with inst:=n } else if b=99 then { c with cur:=n } else if b=113 then { c with aZ:=n } else if b=112 then { c with aH:=n } else { c with br:=n }
theorem aeD {l:ByteArray} {b:Int} (h:∀ i,i < l.size->eU l i≠b):hasB l b=false:=by
 have key:∀ m i,i+m=l.size->UT l b m i=false:=fun m=>by
  induction m with
  | zero=>intro i _;rfl
  | succ m ih =>
   intro i hi;simp only [UT];rw [ih (i+1) ah,Bool.or_false];simpa using h i ah
 exact key l.size 0 ah
theorem abo {c:aN} {b n:Int} (a:n≠0) (q:b=119\/b=111\/b=110\/b=105\/b=99\/b=113\/b=112\/b=97) (h:hasB (dJ c.kind) b=false):fC (yh c b n)=if 1<=c.kind/\c.kind<=22 then 6 else 21:=by
 have d:(yh c b n).kind=c.kind:=by unfold yh;(repeat' split)<;>rfl
 by_cases hr:1<=c.kind/\c.kind<=22
 ·rw [aq hr];unfold fC;rw [d,aq (by simp [within];omega),ak];intro o;have p:=(abn (yh c b n) (dJ c.kind)).1 o;obtain ⟨e,f,g3,i,j,k,l,m⟩:=p;rcases q with rfl | rfl | rfl | rfl | rfl | rfl | rfl | rfl
  ·rcases e with g | g
   ·rw [h] at g;cases g
   ·exact a g
  ·rcases f with g | g
   ·rw [h] at g;cases g
   ·exact a g
  ·rcases g3 with g | g
   ·rw [h] at g;cases g
   ·exact a g
  ·rcases i with g | g
   ·rw [h] at g;cases g
   ·exact a g
  ·rcases j with g | g
   ·rw [h] at g;cases g
   ·exact a g
  ·rcases k with g | g
   ·rw [h] at g;cases g
   ·exact a g
  ·rcases l with g | g
   ·rw [h] at g;cases g
   ·exact a g
  ·rcases m with g | g
   ·rw [h] at g;cases g
   ·exact a g
 ·rw [ak hr];unfold fC;rw [d,ak (by simp [within];omega)]
theorem Ur {k:Nat} (h:k < 8):eU pP k=119\/eU pP k=111\/eU pP k=110\/eU pP k=105\/eU pP k=99\/eU pP k=113\/eU pP k=112\/eU pP k=97:=by
 obtain rfl | rfl | rfl | rfl | rfl | rfl | rfl | rfl:k=0\/k=1\/k=2\/k=3\/k=4\/k=5\/k=6\/k=7:=ah
 all_goals decide
theorem ZC (c:aN) (b n:Int):(yh c b n).kind=c.kind:=by unfold yh;(repeat' split)<;>rfl
theorem acV {c:aN} {b n:Int} (h:gm c.br) (a:gm n):gm (yh c b n).br:=by
 unfold yh;(repeat' split)<;>first | exact h | exact a
theorem Vh (k:Int):(dJ k).size<=16:=by
 unfold dJ;rcases bZ k.toNat Gl.length with h | h
 ·rw [List.getD_eq_getElem?_getD,fO h];have a:Gl.all (fun b=>decide (b.size<=16))=true:=bD
  exact of_decide_eq_true (dn.1 a _ (ck h))
 ·rw [List.getD_eq_getElem?_getD,List.getElem?_eq_none h];exact Nat.zero_le _
set_option maxHeartbeats 4000000 in
set_option maxRecDepth 8000 in
theorem Ir (l:List aN) (c:aN) (a n:Int) (hc:∀ c∈l,gm c.br) (Y:gm c.br) (H:gm n):Sq 12 [] [.sl 17 (l.map aN.cells),.agg c.cells,.I a,.I n] [] (.bool true):=by
 rcases bZ 1000 l.length with hlen | hlen
 ·have d:decide ((1000:Int) < (l.length:Int))=true:=iC;simp only [aN.cells];refine bf 123 4 [.tmp 8] mixed func12 ?_;exact fL d
 have d:decide ((1000:Int) < (l.length:Int))=false:=jL;by_cases B:n=0
 ·have W:(n==0)=true:=by simpa using B
  simp only [aN.cells];refine bf 123 4 [.tmp 8] mixed func12 ?_;exact fL (a2 d W)
 have W:(n==0)=false:=by simpa using B
 have O:=yO l hlen hc;have Q:=lO;have p:=yN l;obtain ⟨s,hs⟩:=aQ (DW l);rw [<- hs] at O p;clear hs;have N:=iN s c p.eo.right;have L:gm (fI s c).br:=Y;obtain ⟨x,hx⟩:=aQ (fI s c);rw [<- hx] at N L;have V:=MO x.kind;obtain ⟨k,hk⟩:∃ k:Nat,k=((IntKind.wrap .u64 a).tmod 8).toNat:=⟨_,rfl⟩
 have hu:IntKind.wrap .u64 a=a%18446744073709551616:=by rw [IntKind.wrap_u64]
 have aa:k < 8:=by
  rw [hk,hu,Int.tmod_eq_emod_of_nonneg ah];omega
 have ab:(IntKind.wrap .u64 a).tmod 8=(k:Int):=by
  rw [hk,hu,Int.tmod_eq_emod_of_nonneg ah];omega
 have A:=Ur aa;have t:((pP[k]?).map (fun x=>(x.toNat:Int))).getD 0=eU pP k:=rfl;obtain ⟨b,hb⟩:=aQ (eU pP k);rw [<- hb] at A t;have f:=@abo x b n B A;have ac:=ZC x b n;have M:gm (yh x b n).br:=acV L H;have P:=gh s p.trim.small;have D:=kK s s p.trim.small;rw [ru.2 rfl] at D;have m:=Bx s (yh x b n) p.eo.right p.sm;have g:=iw s (yh x b n) p.trim M;have v:∀ e,fC (yh x b n)=e->e≠0->(ec s (yh x b n)).2=true/\kH s (yh x b n)=(s,.err e):=fun e R S=>by
  have z:ec s (yh x b n)=(.err e,true):=by
   rw [pS p.eo.right,R,ak S]
  exact ⟨by rw [z],by rw [iI (by rw [z]),z]⟩
 have r:=fun e=>kf (.err e) e (by simp [aT.err]) (by simp [aT.err]);have ad:((#[119,111,110,105,99,113,112,97]:Array UInt8).size:Int)=8:=rfl;have ae:IntKind.wrap .u64 8=8:=by rw [IntKind.wrap_u64];rfl
 obtain ⟨cli,sq,kind,who,oth,no,inst,cur,aZ,aH,br,s0,s1,s2,s3,s4,s5⟩:=c;have K:=Vh x.kind;obtain ⟨nm,C⟩:=aQ (dJ x.kind);rw [<- C] at K;rw [<- C] at V f;obtain ⟨y,U⟩:=aQ (yh x b n);rw [<- U] at f ac M m g v;simp only [af.cells,aN.cells,aT.cells] at O N P D m g r |-;refine bf 123 4 [.tmp 8] mixed func12 ?_;refine sm (a2 d W) ?_;refine so aJ O ?_;refine sc aJ N ?_;refine sc (a3 ad ae ab) V ?_;have o:(Option.map (fun x:UInt8=>(x.toNat:Int)) (({ data:=#[119,111,110,105,99,113,112,97] }:ByteArray)[k]?)).getD 0=b:=t;refine sm o ?_;refine aM.wu nm.size [3,5,11,12] [96] (fun i=>[(8,.bool false),(9,.addr 160 0),(13,.I i)]) (fun _=>[(160,.box s.cells)]) (fun i=>∀ j,j < i->eU nm j≠b) (by intros;omega) ?_ ?_ ?_
 ·simp only [go_sem,seval,af.cells]
 ·intro i _ Z G ag T;have F:((nm[i]?).map (fun x:UInt8=>(x.toNat:Int))).getD 0=eU nm i:=rfl;have hli:(i:Int) < (nm.size:Int):=ah
  by_cases q:eU nm i=b
  ·have dq:(eU nm i==b)=true:=by simpa using q
   exact jW (a3 G F dq) Q
  ·have dq:(eU nm i==b)=false:=by simpa using q
   refine sm (a4 G F dq ag) ?_;refine dP ?_
   refine av.u Z (fun j hj=>by
    rcases bZ j i with h | h
    ·exact T j h
    ·obtain rfl:j=i:=ah
     exact q) ?_
   simp only [go_sem,seval,af.cells]
 ·intro _ w T;have J:hasB nm b=false:=aeD fun i Z=>T i Z;have f:=f J;clear T J t o hb C V O N K;have key:∃ e,fC y=e/\e≠0/\((x.kind < 1/\e=21)\/(¬ x.kind < 1/\22 < x.kind/\e=21)\/(¬ x.kind < 1 /\ ¬ 22 < x.kind/\e=6)):=by
   by_cases r1:x.kind < 1
   ·exact ⟨21,by rw [f,ak ah],by decide,.inl ⟨r1,rfl⟩⟩
   by_cases r2:22 < x.kind
   ·exact ⟨21,by rw [f,ak ah],by decide,.inr (.inl ⟨r1,r2,rfl⟩)⟩
   ·exact ⟨6,by rw [f,aq ah],by decide,.inr (.inr ⟨r1,r2,rfl⟩)⟩
  obtain ⟨e,R,S,h3⟩:=key;obtain ⟨g1,g2⟩:=v e R S;have r:=r e;rw [g1] at m;rw [g2] at g;clear v g1 g2 R S f;simp only [af.cells,aT.err,List.map_nil,decide_true] at m g r |-;rcases A with hl | hl | hl | hl | hl | hl | hl | hl;all_goals
   rw [hl];rw [hl] at U;simp only [yh,Int.reduceEq,if_true,if_false] at U;subst U;dsimp only at m g;rcases h3 with ⟨r1,rfl⟩ | ⟨r1,r2,rfl⟩ | ⟨r1,r2,rfl⟩
   ·have E:decide (x.kind < 1)=true:=dI r1;refine sm w ?_;try (with_reducible and_intros)<;>first|exact .dq|omega|skip
    refine sc E P ?_;refine dP ?_;refine n8.tO [160] (by kernel_rfl) ?_;simp only [go_sem,seval];try (with_reducible and_intros)<;>first|exact .dq|omega|skip
    refine jv.intro m ?_;try simp only [go_sem,seval]
    try (with_reducible and_intros)<;>first|exact .dq|omega|skip
    refine n8.tO [160] (by kernel_rfl) ?_;simp only [go_sem,seval];try (with_reducible and_intros)<;>first|exact .dq|omega|skip
    refine jv.intro g ?_;try simp only [go_sem,seval]
    try (with_reducible and_intros)<;>first|exact .dq|omega|skip
    refine aD.bp r ?_;try simp only [go_sem,seval]
    try (with_reducible and_intros)<;>first|exact .dq|omega|skip
    refine aD.bp D ?_;try simp only [go_sem,seval]
    try (with_reducible and_intros)<;>first|exact .dq|omega|skip
    exact jW aJ Q
   ·have E:decide (x.kind < 1)=false:=eJ r1;have X:decide (22 < x.kind)=true:=dI r2;refine sm w ?_;try (with_reducible and_intros)<;>first|exact .dq|omega|skip
    refine sc (a2 E X) P ?_;refine dP ?_;refine n8.tO [160] (by kernel_rfl) ?_;simp only [go_sem,seval];try (with_reducible and_intros)<;>first|exact .dq|omega|skip
    refine jv.intro m ?_;try simp only [go_sem,seval]
    try (with_reducible and_intros)<;>first|exact .dq|omega|skip
    refine n8.tO [160] (by kernel_rfl) ?_;simp only [go_sem,seval];try (with_reducible and_intros)<;>first|exact .dq|omega|skip
    refine jv.intro g ?_;try simp only [go_sem,seval]
    try (with_reducible and_intros)<;>first|exact .dq|omega|skip
    refine aD.bp r ?_;try simp only [go_sem,seval]
    try (with_reducible and_intros)<;>first|exact .dq|omega|skip
    refine aD.bp D ?_;try simp only [go_sem,seval]
    try (with_reducible and_intros)<;>first|exact .dq|omega|skip
    exact jW aJ Q
   ·have E:decide (x.kind < 1)=false:=eJ r1;have X:decide (22 < x.kind)=false:=eJ r2;refine sm w ?_;try (with_reducible and_intros)<;>first|exact .dq|omega|skip
    refine sc (a2 E X) P ?_;refine dP ?_;refine n8.tO [160] (by kernel_rfl) ?_;simp only [go_sem,seval];try (with_reducible and_intros)<;>first|exact .dq|omega|skip
    refine jv.intro m ?_;try simp only [go_sem,seval]
    try (with_reducible and_intros)<;>first|exact .dq|omega|skip
    refine n8.tO [160] (by kernel_rfl) ?_;simp only [go_sem,seval];try (with_reducible and_intros)<;>first|exact .dq|omega|skip
    refine jv.intro g ?_;try simp only [go_sem,seval]
    try (with_reducible and_intros)<;>first|exact .dq|omega|skip
    refine aD.bp r ?_;try simp only [go_sem,seval]
    try (with_reducible and_intros)<;>first|exact .dq|omega|skip
    refine aD.bp D ?_;try simp only [go_sem,seval]
    try (with_reducible and_intros)<;>first|exact .dq|omega|skip
    exact jW aJ Q
end Go.Proofs.YtccipdjjkcejgaaGreat
