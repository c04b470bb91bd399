/- Layer 25: twins; clients. No theorem of a claim. -/
import Derived.Test.YtccipdjjkcejgaaGreatKZ
set_option linter.unusedSimpArgs false
set_option linter.unusedVariables false
namespace Go.Proofs.YtccipdjjkcejgaaGreat
open Go.Abs Tryz
set_option maxHeartbeats 2000000 in
set_option maxRecDepth 8000 in
theorem Is (l o:List aN) (N:∀ c∈l,gm c.br) (P:∀ c∈o,gm c.br):Sq 7 [] [.sl 17 (l.map aN.cells),.sl 17 (o.map aN.cells)] [] (.bool true):=by
 rcases bZ 1000 l.length with hlen | hlen
 ·have d:decide ((1000:Int) < (l.length:Int))=true:=iC;refine bf 87 2 [.tmp 4] mixed func7 ?_;exact fL d
 have d:decide ((1000:Int) < (l.length:Int))=false:=jL;rcases bZ 1000 o.length with holen | holen
 ·have G:decide ((1000:Int) < (o.length:Int))=true:=iC;refine bf 87 2 [.tmp 4] mixed func7 ?_;exact fL (a2 d G)
 have G:decide ((1000:Int) < (o.length:Int))=false:=jL;have D:=DN;have E:=lO;obtain ⟨n,O⟩:=aQ (min l.length 200);have H:n<=l.length/\n<=200/\(n=l.length\/n=200):=ah
 clear O;refine bf 87 2 [.tmp 4] mixed func7 ?_;refine sm (a2 d G) ?_;refine so aJ D ?_;refine so aJ D ?_;refine so aJ D ?_;try simp only [go_sem,seval]
 refine aM.uB (S:=af × af) n [0,1] [] (fun i _=>[(4,.bool false),(5,.addr 96 0),(6,.addr 112 0),(7,.addr 128 0),(8,.I i)]) (fun i s=>[(96,.box s.1.cells),(112,.box s.1.cells),(128,.box s.2.cells)]) (fun _ s=>s.1.EJ/\s.2.EJ) (.zero,.zero) ⟨kI,kI⟩ ?_ ?_ ?_
 ·exact gU
 ·rintro i ⟨s,u⟩ hi hdi hwi ⟨he,hu⟩;dsimp only at he hu |-;have F:=aV (c:=aN.cells) l (by omega:i < l.length);have a:decide ((i:Int) < (l.length:Int))=true:=iC;have g:decide ((i:Int) < 200)=true:=iC;have hli:(i:Int) < (l.length:Int):=ah
  have v:=N _ (ck (by omega:i < l.length));obtain ⟨c,w⟩:=aQ (l[i]);rw [<- w] at F v;have r:=iN s c he.eo.right;have j:=iw s (fI s c) he.trim v;have h:=nL he (fI s c);have B:=D6 he (fI s c);obtain ⟨x,L⟩:=aQ (fI s c);rw [<- L] at r j h B;obtain ⟨Z,K⟩:=aQ (kH s x);rw [<- K] at j h B;have q:=kJ Z.2 Z.2 ah ah;rw [dI rfl] at q;clear w L K D E;simp only [aN.cells] at F;rcases bZ i o.length with hio | hio
  ·have p:=aV (c:=aN.cells) o hio;have m:decide ((i:Int) < (o.length:Int))=true:=iC;have hlo:(i:Int) < (o.length:Int):=ah
   have A:=P _ (ck hio);obtain ⟨y,C⟩:=aQ (o[i]);rw [<- C] at p A;have k:=iN u y hu.eo.right;have f:=iw u (fI u y) hu.trim A;have b:=nL hu (fI u y);obtain ⟨z,M⟩:=aQ (fI u y);rw [<- M] at k f b;obtain ⟨V,J⟩:=aQ (kH u z);rw [<- J] at f b;clear C M J;simp only [aN.cells] at p;simp only [af.cells,aN.cells,aT.cells] at r j q k f |-;refine sc (a3 a g F) r ?_;refine sg [96] aJ j ?_;refine sc (a2 m p) k ?_;try simp only [go_sem,seval]
   try (with_reducible and_intros)<;>first|exact .dq|omega|skip
   refine n8.tO [128] (by kernel_rfl) ?_;refine s0 ?_;try (with_reducible and_intros)<;>first|exact .dq|omega|skip
   refine jv.intro f ?_;try simp only [go_sem,seval]
   try (with_reducible and_intros)<;>first|exact .dq|omega|skip
   refine n8.tO [112] (by kernel_rfl) ?_;refine s0 ?_;try (with_reducible and_intros)<;>first|exact .dq|omega|skip
   refine jv.intro j ?_;refine sc aJ q ?_;refine sm hwi ?_;refine av.kW (Z.1,V.1) hi ⟨h,b⟩ ?_;simp only [go_sem,seval,af.cells]
  ·have m:decide ((i:Int) < (o.length:Int))=false:=jL;simp only [af.cells,aN.cells,aT.cells] at r j q |-;refine sc (a3 a g F) r ?_;refine sg [96] aJ j ?_;refine sm m ?_;try simp only [go_sem,seval]
   try (with_reducible and_intros)<;>first|exact .dq|omega|skip
   refine n8.tO [112] (by kernel_rfl) ?_;refine s0 ?_;try (with_reducible and_intros)<;>first|exact .dq|omega|skip
   refine jv.intro j ?_;refine sc aJ q ?_;refine sm hwi ?_;refine av.kW (Z.1,u) hi ⟨h,hu⟩ ?_;simp only [go_sem,seval,af.cells]
 ·rintro ⟨s,u⟩ hdx ⟨he,hu⟩;dsimp only at he hu |-;have t:=kK s s he.trim.small;rw [ru.2 rfl] at t;simp only [af.cells] at t |-;rcases H.2.2 with e | e
  ·have a:decide ((n:Int) < (l.length:Int))=false:=jL;refine sc a t ?_;try simp only [go_sem,seval]
   try (with_reducible and_intros)<;>first|exact .dq|omega|skip
   exact jW aJ E
  ·have g:decide ((n:Int) < 200)=false:=jL;cases a:decide ((n:Int) < (l.length:Int))
   ·refine sc a t ?_;try simp only [go_sem,seval]
    try (with_reducible and_intros)<;>first|exact .dq|omega|skip
    exact jW aJ E
   ·refine sc (a2 a g) t ?_;try simp only [go_sem,seval]
    try (with_reducible and_intros)<;>first|exact .dq|omega|skip
    exact jW aJ E
theorem RT {c:aN} (h:fC c=0) (a:c.seq=1):(ec .zero c).2=false:=by
 have e:kY af.zero.aA c.client=none:=rfl;rw [pS Pc.right,aq h,e];show (jh c 0).2=false;have w:IntKind.wrap .i64 (0+1)=1:=rfl;unfold jh;rw [w,aq a,ak ah]
set_option maxHeartbeats 2000000 in
set_option maxRecDepth 8000 in
theorem DE (l:List aN) (c:aN) (hc:∀ c∈l,gm c.br) (o:gm c.br):Sq 10 [] [.sl 17 (l.map aN.cells),.agg c.cells] [] (.bool true):=by
 rcases bZ 1000 l.length with hlen | hlen
 ·have d:decide ((1000:Int) < (l.length:Int))=true:=iC;simp only [aN.cells];refine bf 71 2 [.tmp 4] mixed func10 ?_;exact fL d
 have d:decide ((1000:Int) < (l.length:Int))=false:=jL;have M:=DN;have C:=lO;obtain ⟨n,hn⟩:=aQ (min l.length 200);have X:n<=l.length/\n<=200/\(n=l.length\/n=200):=ah
 clear hn;obtain ⟨cli,sq,kind,who,J,no,inst,cur,aZ,aH,br,s0,s1,s2,s3,s4,s5⟩:=c;dsimp only at o;obtain ⟨f,P⟩:∃ f:aN,f=⟨8,1,kind,who,J,no,inst,cur,aZ,aH,br,s0,s1,s2,s3,s4,s5⟩:=⟨_,rfl⟩
 have a:f.client=8/\f.seq=1:=by rw [P];exact ⟨rfl,rfl⟩
 have w:gm f.br:=by rw [P];exact o
 have y:f.cells=[.I 8,.I 1,.I kind,.I who,.I J,.I no,.I inst,.I cur,.I aZ,.I aH,.I br,.I s0,.I s1,.I s2,.I s3,.I s4,.I s5]:=by rw [P]
 have g:=iw .zero f kI.trim w;have t:=nL kI f;have G:=D6 kI f;have A:fC f=0->kY (kH .zero f).1.aA 8=some ⟨8,1,(kH .zero f).2⟩:=fun h=>by
  rw [GI kI (RT h a.2),aq a.1.symm,a.1,a.2]
 obtain ⟨Z,hZ⟩:=aQ (kH .zero f);rw [<- hZ] at g t G A;have m:=ya f;have Q:∀ s:af,s.EJ->fC f=0->kY s.aA 8=some ⟨8,1,Z.2⟩->kH s f=(s,Z.2):=fun s b O hs=>by
  have e:ec s f=(Z.2,true):=by
   rw [pS b.eo.right,aq O,a.1,hs];show (if f.seq=1 then _ else _)=_;rw [aq a.2]
  rw [iI (by rw [e]),e]
 clear hZ;have r:=fun (s:af) (b:s.EJ)=>iw s f b.trim w;rw [y] at g m;simp only [y] at r;obtain ⟨B,E⟩:=aQ (fC f);rw [<- E] at m A Q;clear P E y w a;simp only [af.cells,af.zero,pl,aN.cells,aT.cells] at M g |-;refine bf 71 2 [.tmp 4] mixed func10 ?_;refine sm d ?_;refine so aJ M ?_;refine sg [224] aJ g ?_;try simp only [go_sem,seval]
 refine aM.uB (S:=af) n [0,3,6] [64,112] (fun i _=>[(4,.bool false),(5,.addr 96 0),(7,.I i)]) (fun i s=>[(96,.box s.cells)]) (fun _ s=>s.EJ/\(B=0->kY s.aA 8=some ⟨8,1,Z.2⟩)) Z.1 ⟨t,A⟩ ?_ ?_ ?_
 ·simp only [go_sem,seval,af.cells,pl]
 ·rintro i s hi hdi H ⟨b,hse⟩;have W:=aV (c:=aN.cells) l (by omega:i < l.length);have p:decide ((i:Int) < (l.length:Int))=true:=iC;have u:decide ((i:Int) < 200)=true:=iC;have hli:(i:Int) < (l.length:Int):=ah
  have o:=hc _ (ck (by omega:i < l.length));obtain ⟨c,D⟩:=aQ (l[i]);rw [<- D] at W o;have R:=iN s c b.eo.right;have K:=iw s (fI s c) b.trim o;have v:=nL b (fI s c);have z:(fI s c).client≠8->B=0->kY (kH s (fI s c)).1.aA 8=some ⟨8,1,Z.2⟩:=fun h O=>by
   cases F:(ec s (fI s c)).2
   ·rw [GI b F,ak fun h'=>h h'.symm];exact hse O
   ·rw [iI F];exact hse O
  obtain ⟨x,hx⟩:=aQ (fI s c);rw [<- hx] at R K v z;obtain ⟨V,hV⟩:=aQ (kH s x);rw [<- hV] at K v z;clear D hx hV M C g m r Q;simp only [af.cells,aN.cells,aT.cells] at R K W |-;refine sc (a3 p u W) R ?_;by_cases q:x.client=8
  ·have U:(x.client==8)=true:=by simpa using q
   simp only [go_sem,seval,bne,U,H];refine dP ?_;refine av.kW s hi ⟨b,hse⟩ ?_;simp only [go_sem,seval,af.cells]
  ·have U:(x.client==8)=false:=by simpa using q
   simp only [go_sem,seval,bne,U];refine sg [96] aJ K ?_;refine sm H ?_;refine av.kW V.1 hi ⟨v,z q⟩ ?_;simp only [go_sem,seval,af.cells]
 ·rintro s hdx ⟨b,hse⟩;have T:=gh s b.trim.small;have k:=r s b;have N:=kK s s b.trim.small;rw [ru.2 rfl] at N;have L:=kJ Z.2 Z.2 ah ah;rw [dI rfl] at L;have j:=Q s b;clear r Q M g;simp only [af.cells,aT.cells] at T N L k |-;have fin:∀ (Y b2:Bool),decide ((n:Int) < (l.length:Int))=Y->decide ((n:Int) < 200)=b2->(Y&&b2)=false->True:=fun _ _ _ _ _=>trivial;cases p:decide ((n:Int) < (l.length:Int))
  ·refine sc p T ?_;refine sc aJ m ?_;by_cases q:B=0
   ·have j:=j q (hse q);rw [j] at k;rw [q];simp only [go_sem,seval,bne];try simp only [go_sem,seval]
    try (with_reducible and_intros)<;>first|exact .dq|omega|skip
    refine n8.tO [96] (by kernel_rfl) ?_;simp only [go_sem,seval];try (with_reducible and_intros)<;>first|exact .dq|omega|skip
    refine jv.intro k ?_;refine sc aJ L ?_;refine sc aJ N ?_;try simp only [go_sem,seval]
    try (with_reducible and_intros)<;>first|exact .dq|omega|skip
    exact jW aJ C
   ·have dq:(B==0)=false:=by simpa using q
    simp only [go_sem,seval,bne,dq];try simp only [go_sem,seval]
    try (with_reducible and_intros)<;>first|exact .dq|omega|skip
    exact jW aJ C
  ·have u:decide ((n:Int) < 200)=false:=by
    rcases X.2.2 with e | e
    ·rw [bL] at p;omega
    ·exact jL
   refine sc (a2 p u) T ?_;refine sc aJ m ?_;by_cases q:B=0
   ·have j:=j q (hse q);rw [j] at k;rw [q];simp only [go_sem,seval,bne];try simp only [go_sem,seval]
    try (with_reducible and_intros)<;>first|exact .dq|omega|skip
    refine n8.tO [96] (by kernel_rfl) ?_;simp only [go_sem,seval];try (with_reducible and_intros)<;>first|exact .dq|omega|skip
    refine jv.intro k ?_;refine sc aJ L ?_;refine sc aJ N ?_;try simp only [go_sem,seval]
    try (with_reducible and_intros)<;>first|exact .dq|omega|skip
    exact jW aJ C
   ·have dq:(B==0)=false:=by simpa using q
    simp only [go_sem,seval,bne,dq];try simp only [go_sem,seval]
    try (with_reducible and_intros)<;>first|exact .dq|omega|skip
    exact jW aJ C
end Go.Proofs.YtccipdjjkcejgaaGreat
