/- Layer 25: what is sent again. No theorem of a claim. -/
import Derived.Test.YtccipdjjkcejgaaGreatKZ
set_option linter.unusedSimpArgs false
set_option linter.unusedVariables false
namespace Go.Proofs.YtccipdjjkcejgaaGreat
open Go.Abs Tryz
theorem again {s:af} (e:s.EJ) (c:aN):(ec (kH s c).1 c).2=true/\kH (kH s c).1 c=kH s c:=by
 cases h:(ec s c).2
 ·have f:=(uv e.eo.right h).1;have a:=sS e h (d:=c) rfl;rw [aq f,aq rfl] at a;refine ⟨by rw [a],?_⟩;rw [iI (by rw [a]),a]
 ·have b:=iI h;rw [b];exact ⟨h,b⟩
theorem YX {s:af} (b:s.EJ) {c:aN} (h:(ec s c).2=false):kH (kH s c).1 { c with seq:=c.seq+2 }=((kH s c).1,.err 19)/\kH (kH s c).1 { c with seq:=c.seq-1 }=((kH s c).1,.err 18):=by
 obtain ⟨e,h1,h2⟩:=uv b.eo.right h;have k1:=sS b h (d:={ c with seq:=c.seq+2 }) rfl;have k2:=sS b h (d:={ c with seq:=c.seq-1 }) rfl;rw [Yd,aq e] at k1 k2;dsimp only at k1 k2;have w:IntKind.wrap .i64 (c.seq+1)=c.seq+1:=gA ah ah;rw [ak ah,ak ah] at k1;rw [ak ah,aq ah] at k2;have a:ec (kH s c).1 { c with seq:=c.seq+2 }=(.err 19,true):=by
  rw [k1];unfold jh;dsimp only;rw [w,ak ah]
 exact ⟨by rw [iI (by rw [a]),a],by rw [iI (by rw [k2]),k2]⟩
theorem YW {s:af} (g:s.EJ) {c:aN} (h:(ec s c).2=false) {d:aN} (e:d.client=c.client) (f:d.seq=c.seq):kH (kH s c).1 d=((kH s c).1,if fC d=0 then (kH s c).2 else .err (fC d)):=by
 have a:=sS g h e;rw [aq f] at a;by_cases b:fC d=0
 ·rw [aq b] at a |-;rw [iI (by rw [a]),a]
 ·rw [ak b] at a |-;rw [iI (by rw [a]),a]
theorem wr2:IntKind.wrap .i64 2=2:=gA ah ah
set_option maxHeartbeats 2000000 in
set_option maxRecDepth 8000 in
theorem KF (l:List aN) (c d:aN) (hc:∀ c∈l,gm c.br) (O:gm c.br) (P:gm d.br):Sq 11 [] [.sl 17 (l.map aN.cells),.agg c.cells,.agg d.cells] [] (.bool true):=by
 rcases bZ 1000 l.length with hlen | hlen
 ·have H:decide ((1000:Int) < (l.length:Int))=true:=iC;simp only [aN.cells];refine bf 114 3 [.tmp 6] mixed func11 ?_;exact fL H
 have H:decide ((1000:Int) < (l.length:Int))=false:=jL;have E:=yO l hlen hc;have N:=lO;have t:=yN l;obtain ⟨s,V⟩:=aQ (DW l);rw [<- V] at E t;clear V;have D:=iN s c t.eo.right;have w:gm (fI s c).br:=O;obtain ⟨x,W⟩:=aQ (fI s c);rw [<- W] at D w;have C:=Bx s x t.eo.right t.sm;have B:=iw s x t.trim w;have e:=nL t x;have R:=D6 t x;obtain ⟨Q,F⟩:=again t x;have u:=@YX s t x;have k:=fun h=>@YW s t x h { d with client:=x.client,kind:=x.kind,seq:=x.seq } rfl rfl;have z:=@uv s x t.eo.right;obtain ⟨Z,U⟩:=aQ (kH s x);rw [<- U] at B e R Q F u k;have g:=Bx Z.1 x e.eo.right e.sm;rw [Q] at g;have f:=iw Z.1 x e.trim w;rw [F] at f;have A:=kJ Z.2 Z.2 ah ah;rw [dI rfl] at A;have G:=gh Z.1 e.trim.small;have y:=kK Z.1 Z.1 e.trim.small;rw [ru.2 rfl] at y;have a:=iw Z.1 { d with client:=x.client,kind:=x.kind,seq:=x.seq } e.trim P;have j:=ya { d with client:=x.client,kind:=x.kind,seq:=x.seq };have m:=iw Z.1 { x with seq:=x.seq+2 } e.trim w;have n:=iw Z.1 { x with seq:=x.seq-1 } e.trim w;have o:=kf (.err 19) 19 (by simp [aT.err]) (by simp [aT.err]);have p:=kf (.err 18) 18 (by simp [aT.err]) (by simp [aT.err]);rw [dI rfl] at o p;obtain ⟨Y,K⟩:=aQ ((ec s x).2);rw [<- K] at C u k z;clear W U F Q K;cases Y
 case true =>
  clear a j m n o p u k z;simp only [af.cells,aN.cells,aT.cells] at E D C B g f G A y |-;refine bf 114 3 [.tmp 6] mixed func11 ?_;refine sm H ?_;refine aD.RY [(4,.addr 80 0),(5,.addr 96 0),(6,.bool false),(19,.addr 128 0)] [(80,.box c.cells),(96,.box d.cells),(128,.box s.cells)] [] [] false rfl ?_;refine s0 ?_;refine cY.gB E ?_;simp only [go_sem,seval,af.cells,aN.cells];refine sc aJ D ?_;refine sg [128] aJ C ?_;refine sg [128] aJ B ?_;refine sc aJ G ?_;try (with_reducible and_intros)<;>first|exact .dq|omega|skip
  refine n8.tO [128] (by kernel_rfl) ?_;refine s0 ?_;try (with_reducible and_intros)<;>first|exact .dq|omega|skip
  refine jv.intro g ?_;try simp only [go_sem,seval]
  try (with_reducible and_intros)<;>first|exact .dq|omega|skip
  refine n8.tO [128] (by kernel_rfl) ?_;refine s0 ?_;try (with_reducible and_intros)<;>first|exact .dq|omega|skip
  refine jv.intro f ?_;try simp only [go_sem,seval]
  try (with_reducible and_intros)<;>first|exact .dq|omega|skip
  refine aD.bp A ?_;try simp only [go_sem,seval]
  try (with_reducible and_intros)<;>first|exact .dq|omega|skip
  refine aD.bp y ?_;try simp only [go_sem,seval]
  try (with_reducible and_intros)<;>first|exact .dq|omega|skip
  exact jW aJ N
 obtain ⟨o1,o2⟩:=u rfl;have k:=k rfl;obtain ⟨-,n1,n2⟩:=z rfl;rw [k] at a;rw [o1] at m;rw [o2] at n;have M:IntKind.wrap .i64 (x.seq+2)=x.seq+2:=gA ah ah;have X:IntKind.wrap .i64 (x.seq-1)=x.seq-1:=gA ah ah;obtain ⟨T,J⟩:=aQ (fC { d with client:=x.client,kind:=x.kind,seq:=x.seq });rw [<- J] at a j;clear J k o1 o2 u z;by_cases q:T=0
 case neg =>
  have dq:(T==0)=false:=by simpa using q
  rw [ak q] at a;simp only [af.cells,aN.cells,aT.cells,aT.err] at E D C B g f G A y a j m n o p |-;refine bf 114 3 [.tmp 6] mixed func11 ?_;refine sm H ?_;refine aD.RY [(4,.addr 80 0),(5,.addr 96 0),(6,.bool false),(19,.addr 128 0)] [(80,.box c.cells),(96,.box d.cells),(128,.box s.cells)] [] [] false rfl ?_;refine s0 ?_;refine cY.gB E ?_;simp only [go_sem,seval,af.cells,aN.cells];refine sc aJ D ?_;refine sg [128] aJ C ?_;refine sg [128] aJ B ?_;refine sc aJ G ?_;try (with_reducible and_intros)<;>first|exact .dq|omega|skip
  refine n8.tO [128] (by kernel_rfl) ?_;refine s0 ?_;try (with_reducible and_intros)<;>first|exact .dq|omega|skip
  refine jv.intro g ?_;try simp only [go_sem,seval]
  try (with_reducible and_intros)<;>first|exact .dq|omega|skip
  refine n8.tO [128] (by kernel_rfl) ?_;refine s0 ?_;try (with_reducible and_intros)<;>first|exact .dq|omega|skip
  refine jv.intro f ?_;try simp only [go_sem,seval]
  try (with_reducible and_intros)<;>first|exact .dq|omega|skip
  refine aD.bp A ?_;try simp only [go_sem,seval]
  try (with_reducible and_intros)<;>first|exact .dq|omega|skip
  refine sc aJ y ?_;refine sg [128] aJ a ?_;try (with_reducible and_intros)<;>first|exact .dq|omega|skip
  refine sc dq j ?_;refine aM.wv 2 [4,7,10] [80,176] (fun i=>[(6,.bool false),(12,.I i)]) (fun _=>[(128,.box Z.1.cells)]) ?_ ?_ ?_
  ·simp only [go_sem,seval,af.cells]
  ·intro i _ L b S _;have b:decide ((i:Int) < 2)=true:=b;obtain rfl | rfl:i=0\/i=1:=ah
   ·simp only [go_sem,seval,b,M,af.cells];refine sg [128] aJ m ?_;try (with_reducible and_intros)<;>first|exact .dq|omega|skip
    refine aD.bp o ?_;simp only [go_sem,seval,wr1,wr2];try (with_reducible and_intros)<;>first|exact .dq|omega|skip
    refine av.v L ?_;simp only [go_sem,seval,af.cells];all_goals try simp
   ·simp only [go_sem,seval,b,M,X,af.cells];refine sg [128] aJ n ?_;try (with_reducible and_intros)<;>first|exact .dq|omega|skip
    refine aD.bp p ?_;simp only [go_sem,seval,wr1,wr2];try (with_reducible and_intros)<;>first|exact .dq|omega|skip
    refine av.v L ?_;simp only [go_sem,seval,af.cells];all_goals try simp
  ·intro _ r _;have r:decide ((2:Int) < 2)=false:=r;simp only [go_sem,seval,af.cells];try (with_reducible and_intros)<;>first|exact .dq|omega|skip
   refine aD.bp y ?_;try simp only [go_sem,seval]
   try (with_reducible and_intros)<;>first|exact .dq|omega|skip
   exact jW aJ N
 rw [aq q] at a;rw [q] at j;simp only [af.cells,aN.cells,aT.cells,aT.err] at E D C B g f G A y a j m n o p |-;refine bf 114 3 [.tmp 6] mixed func11 ?_;refine sm H ?_;refine aD.RY [(4,.addr 80 0),(5,.addr 96 0),(6,.bool false),(19,.addr 128 0)] [(80,.box c.cells),(96,.box d.cells),(128,.box s.cells)] [] [] false rfl ?_;refine s0 ?_;refine cY.gB E ?_;simp only [go_sem,seval,af.cells,aN.cells];refine sc aJ D ?_;refine sg [128] aJ C ?_;refine sg [128] aJ B ?_;refine sc aJ G ?_;try (with_reducible and_intros)<;>first|exact .dq|omega|skip
 refine n8.tO [128] (by kernel_rfl) ?_;refine s0 ?_;try (with_reducible and_intros)<;>first|exact .dq|omega|skip
 refine jv.intro g ?_;try simp only [go_sem,seval]
 try (with_reducible and_intros)<;>first|exact .dq|omega|skip
 refine n8.tO [128] (by kernel_rfl) ?_;refine s0 ?_;try (with_reducible and_intros)<;>first|exact .dq|omega|skip
 refine jv.intro f ?_;try simp only [go_sem,seval]
 try (with_reducible and_intros)<;>first|exact .dq|omega|skip
 refine aD.bp A ?_;try simp only [go_sem,seval]
 try (with_reducible and_intros)<;>first|exact .dq|omega|skip
 refine sc aJ y ?_;refine sg [128] aJ a ?_;try (with_reducible and_intros)<;>first|exact .dq|omega|skip
 refine sc aJ j ?_;try (with_reducible and_intros)<;>first|exact .dq|omega|skip
 refine sc aJ A ?_;refine aM.wv 2 [4,7,10] [80,176] (fun i=>[(6,.bool false),(12,.I i)]) (fun _=>[(128,.box Z.1.cells)]) ?_ ?_ ?_
 ·simp only [go_sem,seval,af.cells]
 ·intro i _ L b S _;have b:decide ((i:Int) < 2)=true:=b;obtain rfl | rfl:i=0\/i=1:=ah
  ·simp only [go_sem,seval,b,M,af.cells];refine sg [128] aJ m ?_;try (with_reducible and_intros)<;>first|exact .dq|omega|skip
   refine aD.bp o ?_;simp only [go_sem,seval,wr1,wr2];try (with_reducible and_intros)<;>first|exact .dq|omega|skip
   refine av.v L ?_;simp only [go_sem,seval,af.cells];all_goals try simp
  ·simp only [go_sem,seval,b,M,X,af.cells];refine sg [128] aJ n ?_;try (with_reducible and_intros)<;>first|exact .dq|omega|skip
   refine aD.bp p ?_;simp only [go_sem,seval,wr1,wr2];try (with_reducible and_intros)<;>first|exact .dq|omega|skip
   refine av.v L ?_;simp only [go_sem,seval,af.cells];all_goals try simp
 ·intro _ r _;have r:decide ((2:Int) < 2)=false:=r;simp only [go_sem,seval,af.cells];try (with_reducible and_intros)<;>first|exact .dq|omega|skip
  refine aD.bp y ?_;try simp only [go_sem,seval]
  try (with_reducible and_intros)<;>first|exact .dq|omega|skip
  exact jW aJ N
end Go.Proofs.YtccipdjjkcejgaaGreat
