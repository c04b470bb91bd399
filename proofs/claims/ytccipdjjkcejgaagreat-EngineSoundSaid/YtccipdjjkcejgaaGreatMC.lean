/- The reference's ledgers: the whole, and what follows. No theorem of a claim. -/
import Derived.Test.YtccipdjjkcejgaaGreatMB
import Derived.Test.YtccipdjjkcejgaaGreatAC
set_option linter.unusedSimpArgs false
set_option linter.unusedVariables false
set_option maxHeartbeats 4000000
set_option maxRecDepth 16000
namespace Go.Proofs.YtccipdjjkcejgaaGreat
open Go.Abs Tryz
open List hiding lt
theorem uz {l:bE} (h:l.okB=true) (a:aP):bQ (jo a l.bs)=true:=by
 have c:=(ajh h).2;clear h;generalize l.bs=bs at c;induction bs with
 | nil=>rfl
 | cons b r ih =>
  simp only [jo];split
  ·exact c b (by simp)
  ·exact ih fun z d=>c z (by simp [d])
theorem UX {n:Int} (h:bQ n=true):gm n:=by have:=bI.1 h;exact ⟨by omega,by omega⟩
structure aU where
 kind:Int
 who:Int
 cur:Int
 br:Int
deriving DecidableEq
@[reducible] def aU.cells (x:aU):List D:=[.I x.kind,.I x.who,.I x.cur,.I x.br]
def aU.bz (x:aU):aP:=⟨x.kind,x.who,x.cur⟩
def aU.n7 (x:aU):Prop:=gm x.kind/\gm x.who/\gm x.cur/\gm x.br
def acc (k w c:Nat):List aP:=if aP.right ⟨(k:Int)+1,w,c⟩ then [⟨(k:Int)+1,w,c⟩] else []
def Rf (k w:Nat) (i:Nat):List aP:=(range i).flatMap (acc k w)
def Un (k:Nat) (i:Nat):List aP:=(range i).flatMap fun w=>Rf k w 3
def aaG (i:Nat):List aP:=(range i).flatMap fun k=>Un k 17
def jd:List aP:=aaG 6
theorem aaF (k w i:Nat):(Rf k w i).length<=i:=by
 have:=F7 (f:=acc k w) (m:=1) (fun c=>by simp only [acc];split<;>simp) i;simpa [Rf] using this
theorem aaJ (k i:Nat):(Un k i).length<=3*i:=F7 (fun w=>aaF k w 3) i
theorem aaH (i:Nat):(aaG i).length<=51*i:=F7 (fun k=>aaJ k 17) i
theorem Rh:jd.length<=306:=aaH 6
def SH (x:aU):Bool:=x.bz.right&&bQ x.br
def Ag (l:List aU):Bool:=l.all SH
def cg (a b:aP) (n:Int):List aU:=[⟨a.kind,a.who,a.cur,-(if bQ n then n else 0)⟩,⟨b.kind,b.who,b.cur,if bQ n then n else 0⟩]
def pick {A:Type} (p:A->Bool) (f:A->Int) (xs:List A):List Int:=xs.flatMap fun x=>if p x then [f x] else []
theorem Gu {A:Type} (p:A->Bool) (f:A->Int) {xs:List A} {i:Nat} (h:i < xs.length):pick p f (xs.take (i+1))=pick p f (xs.take i)++(if p xs[i] then [f xs[i]] else []):=mI _ h
theorem gx {A:Type} (p:A->Bool) (f:A->Int) (xs:List A):(pick p f xs).length<=xs.length:=by
 have:=gw (f:=fun x=>if p x then [f x] else []) (m:=1) (fun x=>by split<;>simp) xs;simpa [pick] using this
theorem xX {A:Type} {p:A->Bool} {f:A->Int} {xs:List A} {R:Int->Prop} (h:∀ x∈xs,R (f x)):∀ n∈pick p f xs,R n:=by
 intro n a;obtain ⟨x,b,a⟩:=mem_flatMap.1 a;split at a
 ·obtain rfl:n=f x:=by simpa using a
  exact h x b
 ·cases a
theorem oW {A:Type} (p:A->Bool) (f:A->Int) {xs:List A} {i:Nat} (h:i < xs.length):ints (pick p f (xs.take (i+1)))=ints (pick p f (xs.take i))++(if p xs[i] then [[.I (f xs[i])]] else []):=by
 rw [Gu p f h];unfold ints;rw [jq];split<;>rfl
theorem as9 (l:List Int):(bQ (aG l)&&addN l==0)=(aG l==0):=by
 unfold addN;cases h:bQ (aG l)
 ·have:aG l≠0:=fun e=>by rw [e] at h;cases h
  simp [this]
 ·simp
theorem KS {l:List aU} (h:Ag l=true):∀ x∈l,x.bz.right=true/\bQ x.br=true:=fun x a=>by
 have:=dn.1 h x a;simpa only [SH,cU] using this
def tE (c:Int) (l:List aU):List Int:=pick (fun x=>x.cur==c) aU.br l
def G2 (l:List aU):Bool:=(range 3).all fun c=>aG (tE c l)==0
def sB (l:List aU):Int:=if l.length=0 then 2 else if 64 < l.length then 5 else if Ag l then (if G2 l then 0 else 12) else 3
def jC (a:aP) (l:List aU):List Int:=pick (fun x=>x.bz.same a) aU.br l
def DI (a:aP) (n:Int):List aU:=if n==0 then [] else [⟨a.kind,a.who,a.cur,n⟩]
def vY (l:List aU) (b:List aP):List aU:=b.flatMap fun a=>DI a (aG (jC a l))
def rM (l:List aU) (b:List aP):Bool:=b.all fun a=>bQ (aG (jC a l))
def rL (l:List aU):Int:=if Ag l then (if rM l jd then 0 else 1) else 3
def om (l:List aU):List aU:=if rL l=0 then vY l jd else []
theorem St (a:aP) (n:Int):(DI a n).length<=1:=by unfold DI;split<;>simp
theorem Yn (l:List aU) (b:List aP):(vY l b).length<=b.length:=by
 have:=gw (f:=fun a=>DI a (aG (jC a l))) (m:=1) (fun a=>St _ _) b;simpa [vY] using this
def tP (l:bE) (g:List aU) (a:aP):Int:=aG (jo a l.bs :: jC a g)
def EB (a:aP) (n:Int):List cq:=if n==0 then [] else [⟨a.kind,a.who,a.cur,n⟩]
def Tb (l:bE) (g:List aU) (b:List aP):List cq:=b.flatMap fun a=>EB a (tP l g a)
def Ho (l:bE) (g:List aU) (b:List aP):Bool:=b.all fun a=>bQ (tP l g a)
def Tc (l:bE) (g:List aU) (b:List aP):Bool:=b.any fun a=>decide (tP l g a < a.floor)
def gf (l:bE) (id:Int) (g:List aU):Int:=
 if l.okB then (if within id 1 1099511627776 then (if id<=l.last then 18 else if sB g=0 then (if Ho l g jd then (if Tc l g jd then 13 else 0) else 1) else sB g) else 3) else 14
def kR (l:bE) (id:Int) (g:List aU):bE:=if gf l id g=0 then ⟨id,Tb l g jd⟩ else ⟨0,[]⟩
theorem Rn (a:aP) (n:Int):(EB a n).length<=1:=by unfold EB;split<;>simp
theorem acH (l:bE) (g:List aU) (b:List aP):(Tb l g b).length<=b.length:=by
 have:=gw (f:=fun a=>EB a (tP l g a)) (m:=1) (fun a=>Rn _ _) b;simpa [Tb] using this
theorem Rz {g:List aU} (h:sB g=0):Ag g=true/\G2 g=true/\g.length<=64:=by
 unfold sB at h;split at h
 ·cases h
 split at h
 ·cases h
 split at h
 ·split at h
  ·rename_i h1 h2 a b;exact ⟨a,b,by omega⟩
  ·cases h
 ·cases h
deriving instance DecidableEq for au,aC,ay,cq,aP
def dQ.ch (x:dQ):Nat->Int
 | 0=>x.c0 | 1=>x.c1 | 2=>x.c2 | 3=>x.c3 | _=>x.c4
theorem UZ (a:List Int) (k:Int) (hl:a.length < 2 ^ 62):Sq 250 [] [.sl 1 (ints a),.I k] [] (.I (jt id k a)):=by
 refine bf 19 2 [.tmp 4] mixed func250 ?_;simp only [go_sem,seval,aW];refine aM.w1 a.length 8 [0,1,7] [] (fun i _=>∀ j (c:j < a.length),j < i->id a[j]≠k) (by intros;omega) ?_ ?_
 ·intro i _ m g o d;have hli:(i:Int) < (a.length:Int):=ah
  simp only [go_sem,seval,g,aW,ints_at a m];refine dP ?_;cases f:k==a[i]
  ·have b:id a[i]≠k:=fun h=>by simp only [id] at h;rw [h] at f;simp at f
   refine sm o ?_;refine av.u m ?_ ?_
   ·intro j c hji;rcases bZ j i with h | h
    ·exact d j c h
    ·obtain rfl:j=i:=ah
     exact b
   ·exact gU
  ·have b:id a[i]=k:=by simp only [id];have:=K4 f;omega
   obtain ⟨n,e⟩:=rH (z:=(0:Int)) m d b;rw [e];exact gU
 ·intro _ l d;obtain ⟨n,e⟩:=oO (z:=(0:Int)) (fun j c=>d j c c);rw [e];exact fL l
theorem vu {A:Type} {no:A->Int} {n:Int}:∀ {xs:List A},decide (0<=jt no n xs)=xs.any (fun x=>no x==n)
 | []=>by simp [jt]
 | x :: r=>by
  have a:=vu (no:=no) (n:=n) (xs:=r);rw [lA,decide_eq_true_iff] at a |-;rw [any_cons,Bool.or_eq_true,<- a,eH];simp only [jt];split
  ·simp [*]
  ·rename_i b;split
   ·exact ⟨fun h=>by omega,fun h=>by rcases h with h | h;exact (b h).elim;omega⟩
   ·exact ⟨fun _=>.inr ah,fun h=>by omega⟩
theorem tB (a:List Int) (k:Int) (b:a.length < 2 ^ 62):Sq 156 [] [.sl 1 (ints a),.I k] [] (.bool (Ob a k)):=by
 have h:=UZ a k b;have e:decide (0<=jt id k a)=Ob a k:=by rw [vu];rfl
 refine bf 9 2 [.tmp 4] mixed func156 ?_;exact jW e h
theorem gy:∀ l m:List Int,aG (l++m)=aG l+aG m
 | [],m=>by simp [aG]
 | x :: l,m=>by simp only [cons_append,aG,gy l m];omega
def au.zero:au:=⟨0,0,0⟩
theorem Ig (xs:List au) (n:Int) (hl:xs.length < 2 ^ 62):Sq 271 [] [.sl 3 (xs.map au.cells),.fn 177 [],.I n] [] (.bT [.agg (iE au.no n au.zero xs).cells,.I (jt au.no n xs)]):=by
 refine bf 27 3 [.cell 6 206,.tmp 7] mixed func271 ?_;refine s0 ?_;refine aM.w1 xs.length 13 [1,2,6,11,12] [112,208] (fun i _=>∀ j (b:j < xs.length),j < i->xs[j].no≠n) (by intros;omega) ?_ ?_
 ·intro i _ o l q e;have p:=aV (c:=au.cells) xs o;have d:=mw xs[i];simp only [au.cells] at p d |-;refine sc (a2 l p) d ?_;cases f:xs[i].no==n
  ·have a:xs[i].no≠n:=by simpa using f
   refine sm (a2 f q) ?_;refine av.u o ?_ ?_
   ·intro j b hji;rcases bZ j i with h | h
    ·exact e j b h
    ·obtain rfl:j=i:=ah
     exact a
   ·exact gU
  ·have a:xs[i].no=n:=by simpa using f
   obtain ⟨g,k⟩:=rH (z:=au.zero) o e a;rw [g,k];exact fL f
 ·intro _ m e;obtain ⟨g,k⟩:=oO (z:=au.zero) (fun j b=>e j b b);rw [g,k];simp only [go_sem,seval,m,au.cells,au.zero]
def fU (r:az) (n:Int):au:=iE au.no n au.zero r.ms
def gF (r:az) (n:Int):Bool:=decide (0<=jt au.no n r.ms)
def bM (r:az) (n:Int):Int:=(fU r n).state
theorem cw (r:az) (n:Int) (b:r.small):Sq 174 [] [.agg r.cells,.I n] [] (.bT [.agg (fU r n).cells,.bool (gF r n)]):=by
 have h:=Ig r.ms n (by have:=b.1;omega);obtain ⟨g,a⟩:=aQ (iE au.no n au.zero r.ms);simp only [fU,gF];rw [<- a] at h |-;simp only [au.cells] at h |-;simp only [az.cells];refine bf 18 2 [.cell 4 206,.tmp 5] mixed func174 ?_;exact jW aJ h
theorem xM (s:af) (n:Int) (b:s.aj.small):Sq 266 [] [.I n,.bq s.cells] [] (.I (bM s.aj n)):=by
 have h:=cw s.aj n b;simp only [bM];obtain ⟨g,a⟩:=aQ (fU s.aj n);rw [<- a] at h |-;simp only [az.cells,au.cells] at h;simp only [af.cells];refine bf 15 2 [.tmp 3] mixed func266 ?_;exact jW aJ h
theorem So (s:af) (n:Int) (b:s.aj.small):Sq 267 [] [.I n,.bq s.cells] [] (.bool (bJ s.aj n)):=by
 have h:=gq s.aj n b;obtain ⟨g,a⟩:=aQ (bA s.aj n);rw [<- a] at h;simp only [az.cells,aC.cells] at h;simp only [af.cells];refine bf 14 2 [.tmp 3] mixed func267 ?_;exact jW aJ h
def He (r:az) (n:Int):Bool:=bM r n==1||bM r n==2
theorem Sp (s:af) (n:Int) (b:s.aj.small):Sq 268 [] [.I n,.bq [.fn 266 [.bq s.cells]]] [] (.bool (He s.aj n)):=by
 have h:=xM s n b;simp only [af.cells] at h |-;refine bf 14 2 [.tmp 3] mixed func268 ?_;refine sc aJ h ?_;cases a:bM s.aj n==1
 ·refine sm a ?_;refine dP ?_;refine aD.bp h ?_;simp only [go_sem,seval,He,a,Bool.false_or]
 ·simp only [go_sem,seval,He,a,Bool.true_or]
theorem Sr (s:af) (c:aB) (a:s.aj.small):Sq 270 [] [.agg c.cells,.bq [.fn 266 [.bq s.cells]]] [] (.bool (!(bM s.aj c.who==1))):=by
 have h:=xM s c.who a;simp only [af.cells] at h |-;simp only [aB.cells];refine bf 10 2 [.tmp 3] mixed func270 ?_;refine s0 ?_;refine dP ?_;refine aD.bp h ?_;simp only [go_sem,seval,bne]
theorem JE (s:af) (cs:List aB) (p:s.aj.small) (l:cs.length < 2 ^ 60):Sq 312 [] [.sl 4 (cs.map aB.cells),.fn 270 [.bq [.fn 266 [.bq s.cells]]]] [] (.I (jt (fun c:aB=>if bM s.aj c.who==1 then 0 else 1) 1 cs)):=by
 have h:=fun c=>Sr s c p;simp only [af.cells,aB.cells] at h |-;refine bf 19 2 [.tmp 4] mixed func312 ?_;refine s0 ?_;refine aM.w1 cs.length 8 [0,1,7] [] (fun i _=>∀ j (a:j < cs.length),j < i->(if bM s.aj cs[j].who==1 then (0:Int) else 1)≠1) (by intros;omega) ?_ ?_
 ·intro i _ k f q b;have m:=aV (c:=aB.cells) cs k;have hli:(i:Int) < (cs.length:Int):=ah
  have l:=h cs[i];simp only [aB.cells] at m;refine sc (a2 f m) l ?_;cases d:bM s.aj cs[i].who==1
  ·obtain ⟨o,e⟩:=rH (no:=fun c:aB=>if bM s.aj c.who==1 then (0:Int) else 1) (n:=1) (z:=(⟨0,0,0,0⟩:aB)) k b (by simp [d]);rw [e];exact fL d
  ·refine sm (a2 d q) ?_;refine av.u k ?_ ?_
   ·intro j a hji;rcases bZ j i with h | h
    ·exact b j a h
    ·obtain rfl:j=i:=ah
     simp [d]
   ·exact gU
 ·intro _ g b;obtain ⟨o,e⟩:=oO (no:=fun c:aB=>if bM s.aj c.who==1 then (0:Int) else 1) (n:=1) (z:=(⟨0,0,0,0⟩:aB)) (fun j a=>b j a a);rw [e];exact fL g
def GU (r:az) (c:aB):Bool:=bM r c.who==1
theorem Cj (s:af) (cs:List aB) (d:s.aj.small) (b:cs.length < 2 ^ 60):Sq 269 [] [.sl 4 (cs.map aB.cells),.fn 270 [.bq [.fn 266 [.bq s.cells]]]] [] (.bool (!cs.all (GU s.aj))):=by
 have h:=JE s cs d b;have e:decide (0<=jt (fun c:aB=>if bM s.aj c.who==1 then (0:Int) else 1) 1 cs) = !cs.all (GU s.aj):=by
  rw [vu,not_all_eq_any_not];congr 1;funext c;cases a:bM s.aj c.who==1<;>simp [GU,a]
 simp only [af.cells] at h |-;refine bf 9 2 [.tmp 4] mixed func269 ?_;exact jW e h
def Vs (r:az) (p:aF):Bool:=He r p.who&&bJ r p.inst
def Ni (r:az) (t:aL):Bool:=!(bM r t.jK==0)&&(!(bM r t.gK==0)&&bJ r t.inst)
def mT (r:az) (n:Int):Bool:=decide (0<=jt ay.a n r.xs)
def MT (r:az) (p:fG):Bool:=He r p.who&&mT r p.fq
def xN (s:af):Bool:=s.book.qs.all (Vs s.aj)&&(s.book.ts.all (Ni s.aj)&&(s.ps.all (MT s.aj)&&s.calls.all (GU s.aj)))
theorem Pm {A:Type} {f:A->Bool} {xs:List A} {i:Nat} (h:i < xs.length) (a:f xs[i]=false):xs.all f=false:=by
 cases b:xs.all f
 ·rfl
 ·rw [dn.1 b _ (ck h)] at a;cases a
theorem IQ {A:Type} {f:A->Bool} {xs:List A} (h:∀ j (a:j < xs.length),j < xs.length->f xs[j]=true):xs.all f=true:=dn.2 fun x b=>by
 obtain ⟨j,a,rfl⟩:=mem_iff_getElem.1 b;exact h j a a
theorem Cg {A:Type} {f:A->Bool} {xs:List A} {i:Nat} (hi:i < xs.length) (c:∀ j (a:j < xs.length),j < i->f xs[j]=true) (b:f xs[i]=true):∀ j (a:j < xs.length),j < i+1->f xs[j]=true:=fun j a hji=>by
 rcases bZ j i with h | h
 ·exact c j a h
 ·obtain rfl:j=i:=ah
  exact b
theorem U9 (s:af) (C:s.fit) (hc:s.calls.length < 2 ^ 30):Sq 172 [] [.agg s.cells] [] (.bool (xN s)):=by
 obtain ⟨q,A,_,hp⟩:=C;obtain ⟨hb1,hb2⟩:=A;have k2:=fun n=>So s n q;have k1:=fun n=>xM s n q;have k3:=fun n=>Sp s n q;have y:=fun n=>kU s.aj n q;have z:=Cj s s.calls q ah;simp only [az.cells] at y;simp only [af.cells] at k1 k2 k3 z |-;refine bf 98 1 [.tmp 2] mixed func172 ?_;refine s0 ?_;refine aM.w1 s.book.qs.length 21 [1,3,4,5,19,20] [32,64,256,272,336] (fun i _=>∀ j (x:j < s.book.qs.length),j < i->Vs s.aj s.book.qs[j]=true) (by intros;omega) ?_ ?_
 ·intro i _ k m r f;have p:=aV (c:=aF.cells) s.book.qs k;have e0:=Cg k f;have o:Vs s.aj s.book.qs[i]=false->xN s=false:=fun h=>by simp [xN,Pm k h]
  simp only [aF.cells] at p;refine sl (a2 m p) (k3 s.book.qs[i].who) ?_;cases b:He s.aj s.book.qs[i].who
  ·have:=o (by simp [Vs,b]);exact fL (a2 b this)
  refine sl b (k2 s.book.qs[i].inst) ?_;cases d:bJ s.aj s.book.qs[i].inst
  ·have:=o (by simp [Vs,b,d]);exact fL (a2 d this)
  refine sm (a2 d r) ?_;refine av.u k (e0 (by simp [Vs,b,d])) ?_;exact gU
 intro _ e f;have l:=IQ f;have w:xN s=(s.book.ts.all (Ni s.aj)&&(s.ps.all (MT s.aj)&&s.calls.all (GU s.aj))):=by simp [xN,l]
 rw [w];clear w l f;refine sm e ?_;clear e;refine aM.w1 s.book.ts.length 44 [1,3,4,5,42,43] [32,64,256,272,704] (fun i _=>∀ j (x:j < s.book.ts.length),j < i->Ni s.aj s.book.ts[j]=true) (by intros;omega) ?_ ?_
 ·intro i _ k m r f;have p:=aV (c:=aL.cells) s.book.ts k;have e0:=Cg k f;have o:Ni s.aj s.book.ts[i]=false->(s.book.ts.all (Ni s.aj)&&(s.ps.all (MT s.aj)&&s.calls.all (GU s.aj)))=false:=fun h=>by simp [Pm k h]
  simp only [aL.cells] at p;refine sl (a2 m p) (k1 s.book.ts[i].jK) ?_;cases b:bM s.aj s.book.ts[i].jK==0
  case true =>
   have:=o (by simp only [Ni,b];rfl);exact fL (a2 b this)
  refine sl b (k1 s.book.ts[i].gK) ?_;cases d:bM s.aj s.book.ts[i].gK==0
  case true =>
   have:=o (by simp only [Ni,b,d];rfl);exact fL (a2 d this)
  refine sl d (k2 s.book.ts[i].inst) ?_;cases t:bJ s.aj s.book.ts[i].inst
  ·have:=o (by simp only [Ni,b,d,t];rfl);exact fL (a2 t this)
  refine sm (a2 t r) ?_;refine av.u k (e0 (by simp only [Ni,b,d,t];rfl)) ?_;exact gU
 intro _ e f;have l:=IQ f;rw [l,fc];clear l f;have hpl:(pl s.ps).length=s.ps.length:=eV s.ps;refine sm e ?_;clear e;refine aM.w1 s.ps.length 71 [1,3,5,69,70] [32,64,272,1136] (fun i _=>∀ j (x:j < s.ps.length),j < i->MT s.aj s.ps[j]=true) (by intros;omega) ?_ ?_
 ·intro i _ k m r f;have p:=uG s.ps k;have e0:=Cg k f;have o:MT s.aj s.ps[i]=false->(s.ps.all (MT s.aj)&&s.calls.all (GU s.aj))=false:=fun h=>by simp [Pm k h]
  have l:=y s.ps[i].fq;obtain ⟨g,B⟩:=aQ (iE ay.a s.ps[i].fq ⟨0,0,0,0⟩ s.aj.xs);have v:decide (0<=jt ay.a s.ps[i].fq s.aj.xs)=mT s.aj s.ps[i].fq:=rfl;rw [<- B,v] at l;simp only [ay.cells] at l;refine sc (a2 m p) l ?_;refine sl aJ (k3 s.ps[i].who) ?_;cases b:He s.aj s.ps[i].who
  ·have:=o (by simp only [MT,b];rfl);exact fL (a2 b this)
  cases d:mT s.aj s.ps[i].fq
  ·have:=o (by simp only [MT,b,d];rfl);exact fL (a3 b d this)
  refine sm (a3 b d r) ?_;refine av.u k (e0 (by simp only [MT,b,d];rfl)) ?_;exact gU
 intro _ e f;have l:=IQ f;rw [l,fc];clear l f;refine sm e ?_;refine aD.iT [32,64] [] true (by simp) ?_;refine s0 ?_;refine cY.gB z ?_;simp only [go_sem,seval,Bool.not_not]
def eM (x y:Int):Int:=if x < y then -1 else if y < x then 1 else 0
theorem Kl (x:Int):Sq 235 [] [.I x] [] (.bool false):=by
 refine bf 6 1 [.tmp 2] mixed func235 ?_;simp only [go_sem,seval,bne,beq_self_eq_true,Bool.not_true]
theorem gJ (x y:Int):Sq 124 [] [.I x,.I y] [] (.I (eM x y)):=by
 have b:=Kl x;have c:=Kl y;refine bf 20 2 [.tmp 4] mixed func124 ?_;refine sc aJ b ?_;refine aD.bp c ?_;simp only [eM];rcases Int.lt_or_le x y with h | h
 ·have d:decide (x < y)=true:=dI h;simp only [go_sem,seval,d,aq h]
 ·have d:decide (x < y)=false:=jL;rw [ak ah];rcases Int.lt_or_le y x with h3 | h3
  ·have a:decide (y < x)=true:=dI h3;simp only [go_sem,seval,d,a,aq h3]
  ·have a:decide (y < x)=false:=jL;simp only [go_sem,seval,d,a,ak (show ¬ y < x by omega)]
def orI:List Int->Int
 | []=>0
 | x :: xs=>if x=0 then orI xs else x
theorem RC (xs:List Int) (hn:xs.length < 2 ^ 60):Sq 123 [] [.sl 1 (ints xs)] [] (.I (orI xs)):=by
 refine bf 18 1 [.tmp 2] mixed func123 ?_;simp only [go_sem,seval,aW];refine aM.w1 xs.length 8 [3,6,7] [128] (fun i _=>orI (xs.drop i)=orI xs) (by simp) ?_ ?_
 ·intro i _ g e k a;have b:=ints_at xs g;obtain ⟨x,h⟩:=aQ (xs[i]);have j:orI (xs.drop i)=if x=0 then orI (xs.drop (i+1)) else x:=by rw [fZ g,orI,h]
  rw [j] at a;rw [<- h] at b;simp only [go_sem,seval,aW,e,b];refine dP ?_;cases c:x==0
  ·have d:x≠0:=by simpa using c
   rw [ak d] at a;rw [a] at c;simp only [go_sem,seval,bne,c,a]
  ·have d:x=0:=by simpa using c
   rw [aq d] at a;simp only [go_sem,seval,bne,c,k];refine av.u g a ?_;exact gU
 ·intro _ f a;rw [nx,orI] at a;simp only [go_sem,seval,aW,f,<- a]
theorem oH (x y:Int):Sq 123 [] [.sl 1 [[.I x],[.I y]]] [] (.I (if x=0 then y else x)):=by
 have h:=RC [x,y] (by simp);have e:orI [x,y]=if x=0 then y else x:=by
  simp only [orI];split<;>try rfl
  split<;>rename_i h<;>simp_all
 rw [e] at h;exact h
def bO (a b:aB):Bool:=decide (a.who < b.who)||(a.who==b.who&&decide (a.cur < b.cur))
def w7 (a:aB) (w c:Int):Int:=if eM a.who w=0 then eM a.cur c else eM a.who w
theorem Rt (a b:aB):decide (0<=w7 a b.who b.cur) = !bO a b:=by
 rw [lA,decide_eq_true_iff];simp only [w7,eM,bO,iK,Bool.or_eq_false_iff,gM,Bool.and_eq_false_iff,beq_eq_false_iff_ne];repeat' split
 all_goals omega
theorem uj (a:aB) (w c:Int):Sq 259 [] [.agg a.cells,.I w,.I c] [] (.I (w7 a w c)):=by
 have b:=gJ a.who w;have d:=gJ a.cur c;have e:=oH (eM a.who w) (eM a.cur c);simp only [aB.cells];refine bf 19 3 [.tmp 6] mixed func259 ?_;refine sc aJ b ?_;refine sc aJ d ?_;refine dP ?_;refine aD.iT [] [] true (by simp) ?_;refine s0 ?_;refine cY.gB e ?_;simp only [go_sem,seval,w7]
def cj (c:aB):Bool:=(within c.who 1 16&&within c.cur 0 2)&&(within c.br 1 4611686018427387904&&within c.till 0 1099511627776)
theorem xd (w c:Int):Sq 256 [] [.I w,.I c] [] (.bool (within w 1 16&&within c 0 2)):=by
 refine bf 19 2 [.tmp 4] mixed func256 ?_;refine s0 ?_;repeat' with_reducible first|apply And.intro|exact .dq|refine aD.bp (by assumption) ?_|refine pq (fun h=>?_) fun h=>?_|refine .id ?_|refine av.eS ah ?_ ?_|exact aJ|simp only [*,go_sem,seval]
 all_goals (simp_all [within];try omega)
theorem w9 (cs:List aB) (hl:cs.length < 2 ^ 30):Sq 171 [] [.sl 4 (cs.map aB.cells)] [] (.I (if qt cj bO cs then 0 else 14)):=by
 refine bf 64 1 [.tmp 2] mixed func171 ?_;refine s0 ?_;refine aM.count cs.length [0,5,6] [112] (fun i=>[(7,.I i)]) (fun i=>[]) (fun i=>∀ j < i,sA cj bO cs j=true) (by simp) ?_ ?_
 ·simp only [go_sem,seval]<;>simp
 intro i hi m;refine s0 ?_;refine bF.fM (fun h=>?_) (fun h=>?_)
 ·have a:i < cs.length:=ah
  have hw:IntKind.wrap .i64 ((i:Int)+1)=((i+1:Nat):Int):=gN;have n:=aV (c:=aB.cells) cs a;have e0:=Cn (i:=i) m;have e1:sA cj bO cs i=false->qt cj bO cs=false:=JH a;have o:=xd cs[i].who cs[i].cur;have k:Sq 129 [] [.sl 1 [[.I cs[i].br]]] [] (.bool (right [cs[i].br])):=bY [cs[i].br] (by simp);rw [o8] at k;have b:(bQ cs[i].br&&!decide (cs[i].br < 1))=within cs[i].br 1 4611686018427387904:=by rw [lA];simp [bQ,within];omega
  have g:(!decide (cs[i].till < 0)&&!decide (1099511627776 < cs[i].till))=within cs[i].till 0 1099511627776:=by rw [lA];simp [within]
  simp only [aB.cells] at n;rcases Nat.eq_zero_or_pos i with rfl | hpos
  ·have hk:=mU (ok:=cj) (lt:=bO) a;simp only [cj,<- b,<- g] at hk;refine sm n ?_;repeat' with_reducible first|apply And.intro|exact .dq|refine aD.bp (by assumption) ?_|refine aD.bp (o) ?_|(refine aD.iT [] [] true (by simp) ?_;simp only [go_sem,seval];refine cY.gB k ?_)|refine pq (fun h=>?_) fun h=>?_|refine .id ?_|refine av.eS ah ?_ ?_|exact aJ|simp only [*,go_sem,seval]
   all_goals exact clo
  ·obtain ⟨j,rfl⟩:∃ j,i=j+1:=⟨i-1,by omega⟩
   have q:j < cs.length:=ah
   have hw1:IntKind.wrap .i64 (((j+1:Nat):Int)-1)=(j:Int):=gN;have hk:=lC (ok:=cj) (lt:=bO) a;simp only [cj,<- b,<- g] at hk;have f:=aV (c:=aB.cells) cs q;have p:=uj cs[j] cs[j+1].who cs[j+1].cur;have d:=Rt cs[j] cs[j+1];rw [d.symm.trans (by rfl:decide (0<=w7 cs[j] cs[j+1].who cs[j+1].cur)=decide (0<=w7 cs[j] cs[j+1].who cs[j+1].cur))] at d;simp only [aB.cells] at p;have e:bO cs[j] cs[j+1] = !decide (0<=w7 cs[j] cs[j+1].who cs[j+1].cur):=by rw [Rt,Bool.not_not]
   rw [e] at hk;clear d e;simp only [aB.cells] at f;refine sm n ?_;repeat' with_reducible first|apply And.intro|exact .dq|refine aD.bp (by assumption) ?_|refine aD.bp (o) ?_|(refine aD.iT [] [] true (by simp) ?_;simp only [go_sem,seval];refine cY.gB k ?_)|refine aD.bp (p) ?_|refine pq (fun h=>?_) fun h=>?_|refine .id ?_|refine av.eS ah ?_ ?_|exact aJ|simp only [*,go_sem,seval,f,qn]
   all_goals exact clo
 have l:=yE (fun j (q:j < cs.length)=>m j ah);clear m;exact fL l
def JJ (s:af):Bool:=within s.now 0 1099511627776&&(within s.day 0 1099511627776&&within s.phase 0 2)
theorem Ix (a b c:Int):Sq 169 [] [.agg [.I a,.I b,.I c]] [] (.bool (within a 0 1099511627776&&(within b 0 1099511627776&&within c 0 2))):=by
 refine bf 31 1 [.tmp 2] mixed func169 ?_;refine s0 ?_;repeat' with_reducible first|apply And.intro|exact .dq|refine aD.bp (by assumption) ?_|refine pq (fun h=>?_) fun h=>?_|refine .id ?_|refine av.eS ah ?_ ?_|exact aJ|simp only [*,go_sem,seval]
 all_goals (simp_all [within];try omega)
def wW (b:bB):Bool:=rN b.who b.inst&&(within b.src 1 16&&(within b.aZ 1 1048576&&within b.aH 1 1073741824))
theorem M0 (b:bB):Sq 173 [] [.agg b.cells] [] (.bool (wW b)):=by
 simp only [bB.cells];refine bf 55 1 [.tmp 2] mixed func173 ?_;refine s0 ?_;repeat' with_reducible first|apply And.intro|exact .dq|refine aD.bp (by assumption) ?_|refine pq (fun h=>?_) fun h=>?_|refine .id ?_|refine av.eS ah ?_ ?_|exact aJ|simp only [*,go_sem,seval]
 all_goals (simp_all [wW,rN,within];try omega)
def mg (x:aO):Bool:=within x.client 1 8&&within x.seq 1 1099511627776
def fW (a b:aO):Bool:=decide (a.client < b.client)
def fJ (s:af):Bool:=JJ s&&(s.aj.okB&&(s.book.okB&&(s.bu.okB&&(mN s.ps&&(qt cj bO s.calls&&(xN s&&(!decide (32 < (s.bH.length:Int))&&(s.bH.all wW&&qt mg fW s.aA))))))))
theorem mH (s:af) (hs:s.small):Sq 71 [] [.agg s.cells] [] (.I (if fJ s then 0 else 14)):=by
 have f:s.fit:=⟨hs.aj.small,hs.book,hs.bu,hs.ps⟩
 have c1:=Ix s.now s.day s.phase;have c2:=dN s.aj hs.aj.small;have c3:=gX s.book hs.book;have c4:=mu s.bu hs.bu;have B:=Gv s.ps (by have:=hs.ps;omega);have C:=w9 s.calls hs.calls;have x:=U9 s f hs.calls;have hbl:=hs.bH;have hsl:=hs.aA;clear f;simp only [az.cells,aI.cells,bE.cells] at c2 c3 c4;simp only [af.cells] at x |-;refine bf 106 1 [.tmp 2] mixed func71 ?_;refine sc aJ c1 ?_;cases a:JJ s
 ·have e:fJ s=false:=by simp [fJ,a]
  simp only [JJ] at a;simp only [go_sem,seval,a,e]<;>simp
 have g:=a;simp only [JJ] at g;refine sc g c2 ?_;cases p:s.aj.okB
 ·have e:fJ s=false:=by simp [fJ,p]
  simp only [go_sem,seval,e]<;>simp
 refine sc aJ c3 ?_;cases q:s.book.okB
 ·have e:fJ s=false:=by simp [fJ,q]
  simp only [go_sem,seval,e]<;>simp
 refine sc aJ c4 ?_;cases r:s.bu.okB
 ·have e:fJ s=false:=by simp [fJ,r]
  simp only [go_sem,seval,e]<;>simp
 refine sc aJ B ?_;cases t:mN s.ps
 ·have e:fJ s=false:=by simp [fJ,t]
  simp only [go_sem,seval,e]<;>simp
 refine sc aJ C ?_;cases v:qt cj bO s.calls
 ·have e:fJ s=false:=by simp [fJ,v]
  simp only [go_sem,seval,e]<;>simp
 refine sc aJ x ?_;cases w:xN s
 ·have e:fJ s=false:=by simp [fJ,w]
  simp only [go_sem,seval,e]<;>simp
 cases l:decide (32 < (s.bH.length:Int))
 case true =>
  have e:fJ s=false:=by simp [fJ,l]
  simp only [go_sem,seval,l,e]<;>simp
 have e:fJ s=(s.bH.all wW&&qt mg fW s.aA):=by simp only [fJ,a,p,q,r,t,v,w,l,fc,Bool.not_false]
 rw [e];clear e c1 c2 c3 c4 B C x a g p q r t v w;refine sm l ?_;refine aM.w1 s.bH.length 55 [1,53,54] [32,880] (fun i _=>∀ j (A:j < s.bH.length),j < i->wW s.bH[j]=true) (by intros;omega) ?_ ?_
 ·intro i _ n z E d;have k:=aV (c:=bB.cells) s.bH n;have D:=M0 s.bH[i];have e0:=Cg n d;have e1:wW s.bH[i]=false->(s.bH.all wW&&qt mg fW s.aA)=false:=fun h=>by simp [Pm n h]
  simp only [bB.cells] at k D;refine sc (a2 z k) D ?_;cases a:wW s.bH[i]
  ·have:=e1 a;simp only [go_sem,seval,this]<;>simp
  refine sm E ?_;refine av.u n (e0 a) ?_;exact gU
 intro _ m d;have hA:=IQ d;rw [hA,fc];clear d hA;refine sm m ?_;clear m l;refine aM.count s.aA.length [1,64,65] [32,1056] (fun i=>[(66,.I i)]) (fun i=>[]) (fun i=>∀ j < i,sA mg fW s.aA j=true) (by simp) ?_ ?_
 ·simp only [go_sem,seval]<;>simp
 intro i n d;refine s0 ?_;refine bF.fM (fun h=>?_) (fun h=>?_)
 ·have b:i < s.aA.length:=ah
  have E:IntKind.wrap .i64 ((i:Int)+1)=((i+1:Nat):Int):=gN;have k:=aV (c:=aO.cells) s.aA b;have e0:=Cn (i:=i) d;have e1:sA mg fW s.aA i=false->qt mg fW s.aA=false:=JH b

  simp only [aO.cells] at k;rcases Nat.eq_zero_or_pos i with rfl | hpos
  ·have hk:=mU (ok:=mg) (lt:=fW) b;simp only [mg,fW,within] at hk;refine sm k ?_;repeat' with_reducible first|apply And.intro|exact .dq|refine aD.bp (by assumption) ?_|refine pq (fun h=>?_) fun h=>?_|refine .id ?_|refine av.eS ah ?_ ?_|exact aJ|simp only [*,go_sem,seval]
   all_goals exact clo
  ·obtain ⟨j,rfl⟩:∃ j,i=j+1:=⟨i-1,by omega⟩
   have A:j < s.aA.length:=ah
   have hw1:IntKind.wrap .i64 (((j+1:Nat):Int)-1)=(j:Int):=gN;have hk:=lC (ok:=mg) (lt:=fW) b;simp only [mg,fW,within] at hk;have o:=aV (c:=aO.cells) s.aA A

   simp only [aO.cells] at o;refine sm k ?_;repeat' with_reducible first|apply And.intro|exact .dq|refine aD.bp (by assumption) ?_|refine pq (fun h=>?_) fun h=>?_|refine .id ?_|refine av.eS ah ?_ ?_|exact aJ|simp only [*,go_sem,seval,o,qn]
   all_goals exact clo
 have y:=yE (fun j (A:j < s.aA.length)=>d j ah);clear d;exact fL y
def rG {B:Type} (f:Nat->List B) (i:Nat):List B:=(range i).flatMap f
theorem Ds {B:Type} (f:Nat->List B) (i:Nat):rG f (i+1)=rG f i++f i:=PR f i
theorem yF {B:Type} {f:Nat->List B} {m:Nat} (h:∀ a,(f a).length<=m) (i:Nat):(rG f i).length<=m*i:=F7 h i
theorem RX {B:Type} (f:Nat->List B):rG f 0=[]:=rfl
def az.none:az:=⟨[],[],[]⟩
def lY (r:az) (w n:Int):Int:=if r.okB then (if au.ok ⟨w,1,n⟩ then (if gF r w then 11 else 0) else 3) else 14
def aaM (r:az) (m:au) (i:Nat):List au:=(if gF r ((i:Int)+1) then [fU r ((i:Int)+1)] else [])++(if (i:Int)+1==m.no then [m] else [])
def jc (r:az) (w n:Int):az:=if lY r w n=0 then ⟨rG (aaM r ⟨w,1,n⟩) 16,r.ns,r.xs⟩ else .none
def aC.bare (i:aC):aC:={ i with set:=0,aH:=0 }
def qL (r:az) (i:aC):Int:=if r.okB then (if i.bare.ok then (if bJ r i.no then 11 else 0) else 3) else 14
def YF (r:az) (m:aC) (i:Nat):List aC:=(if bJ r ((i:Int)+1) then [bA r ((i:Int)+1)] else [])++(if (i:Int)+1==m.no then [m] else [])
def mZ (r:az) (i:aC):az:=if qL r i=0 then ⟨r.ms,rG (YF r i.bare) 8,r.xs⟩ else .none
def nI (r:az) (n:Int):ay:=iE ay.a n ⟨0,0,0,0⟩ r.xs
def rJ (r:az) (a:ay):Int:=if r.okB then (if a.ok&&!(mT r a.a&&!((nI r a.a).b==a.b)) then 0 else 3) else 14
def abw (r:az) (a:ay) (i:Nat):List ay:=if (i:Int)+1==a.a then [a] else if mT r ((i:Int)+1) then [nI r ((i:Int)+1)] else []
def mq (r:az) (a:ay):az:=if rJ r a=0 then ⟨r.ms,r.ns,rG (abw r a) 6⟩ else .none
def yw {A:Type} (no:A->Int) (n:Int) (f:A->A):List A->List A
 | []=>[]
 | x :: r=>if no x=n then f x :: r else x :: yw no n f r
theorem En {A:Type} {no:A->Int} {n:Int} {f:A->A}:∀ {xs:List A} {i:Nat} (h:i < xs.length),(∀ j (b:j < xs.length),j < i->no xs[j]≠n)->no xs[i]=n->yw no n f xs=xs.set i (f xs[i])
 | [],i,h,_,_=>by simp at h
 | x :: r,0,h,_,a=>by
  have a:no x=n:=a;simp [yw,a]
 | x :: r,i+1,h,hn,a=>by
  have c:no x≠n:=hn 0 (by simp) ah;have d:=En (f:=f) (xs:=r) (i:=i) (by simpa using h) (fun j b hji=>hn (j+1) (by simpa using b) ah) a;simp only [yw,ak c,d,getElem_cons_succ,set_cons_succ]
def wD (r:az) (n p:Int):Int:=if r.okB then (if bJ r n then (if within p 1 1073741824 then 0 else 3) else 10) else 14
def aC.told (p:Int) (x:aC):aC:={ x with set:=p }
def oB (r:az) (n p:Int):az:=if wD r n p=0 then ⟨r.ms,yw aC.no n (aC.told p) r.ns,r.xs⟩ else .none
def MU (r:az) (n p:Int):Int:=if r.okB then (if gF r n then (if within p 1 3 then 0 else 3) else 10) else 14
def au.put (p:Int) (x:au):au:={ x with state:=p }
def ju (r:az) (n p:Int):az:=if MU r n p=0 then ⟨yw au.no n (au.put p) r.ms,r.ns,r.xs⟩ else .none
def pX {A:Type} (f:A->A) (xs:List A) (i:Nat):List A:=(xs.take i).map f++xs.drop i
theorem Gk {A:Type} (f:A->A) (xs:List A):pX f xs 0=xs:=by simp [pX]
theorem KU {A:Type} (f:A->A) (xs:List A):pX f xs xs.length=xs.map f:=by simp [pX]
theorem uC {A:Type} (f:A->A) (xs:List A) (i:Nat):(pX f xs i).length=xs.length:=by simp [pX];omega
theorem I1 {A:Type} (f:A->A) {xs:List A} {i:Nat} (h:i < xs.length):(pX f xs i)[i]'(by rw [uC];exact h)=xs[i]:=by
 have hl:((xs.take i).map f).length=i:=by simp;omega
 simp only [pX];rw [getElem_append_right ah];simp [Nat.min_eq_left (Nat.le_of_lt h)]
theorem DM {A:Type} (f:A->A) {xs:List A} {i:Nat} (h:i < xs.length):(pX f xs i).set i (f xs[i])=pX f xs (i+1):=by
 have a:((xs.take i).map f).length=i:=by simp;omega
 simp only [pX];rw [set_append_right _ _ ah,a,Nat.sub_self,drop_eq_getElem_cons h,set_cons_zero,l7 h,jq,cQ];rfl
theorem YJ {A:Type} (f:A->A) {xs:List A} {i:Nat} (h:i < xs.length) (a:f xs[i]=xs[i]):pX f xs (i+1)=pX f xs i:=by
 rw [<- DM f h,a]
 conv=>lhs;rw [<- I1 f h]
 exact set_getElem_self _
def aC.tU (x:aC):aC:=if x.set==0 then x else { x with aH:=x.set,set:=0 }
def L1 (r:az):az:=⟨r.ms,r.ns.map aC.tU,r.xs⟩
def ld (r:az) (ss:List Int):List Int:=pick (fun m:au=>Ob ss m.state) au.no r.ms
def cE (w n:Int) (p:aF):Bool:=p.who==w&&p.inst==n
def posOf (w n:Int):List aF->aF
 | []=>⟨w,n,0,0⟩
 | p :: r=>if cE w n p then p else posOf w n r
def onB (n:Int) (t:aL):Bool:=t.no==n&&!t.off
def lR (n:Int):List aL->Int
 | []=>-1
 | t :: r=>if onB n t then 0 else if lR n r < 0 then -1 else lR n r+1
def sizedB (t:aL):Bool:=within t.aZ 1 1048576&&within t.aH 1 1073741824
def vL (r:az) (t:aL):Int:=if r.okB then (if sizedB t then (if bJ r t.inst&&(gF r t.jK&&gF r t.gK) then (if t.jK==t.gK then 16 else if bM r t.jK==1&&bM r t.gK==1 then 0 else 14) else 10) else 3) else 14
def V0 (t:aL) (a:Bool):Int:=if a then -t.aZ else t.aZ
def fT (t:aL) (a:Bool):List aF:=if sizedB t then [⟨t.jK,t.inst,V0 t a,V0 t a*t.aH⟩,⟨t.gK,t.inst,-V0 t a,-V0 t a*t.aH⟩] else []
def lq (p:aF) (m a:Int):Int:=p.aZ*(a*m) + -p.cost*m
def qc (p:aF):Bool:=rN p.who p.inst&&(bQ p.aZ&&bQ p.cost)
def J5 (g:List aF):Bool:=(range 8).all fun i=>aG (pick (fun p:aF=>p.inst==(i:Int)+1) aF.aZ g)==0
def IN (b:aI) (g:List aF) (w n:Int):Int:=aG ((posOf w n b.qs).aZ :: pick (cE w n) aF.aZ g)
def Uo (b:aI) (g:List aF) (w n:Int):Int:=aG ((posOf w n b.qs).cost :: pick (cE w n) aF.cost g)
def AQ (b:aI) (g:List aF) (w n:Int):Bool:=bQ (IN b g w n)&&(bQ (Uo b g w n)&&within (IN b g w n) (-1099511627776) 1099511627776)
def Nr (b:aI) (g:List aF) (w n:Int):List aF:=if IN b g w n==0&&Uo b g w n==0 then [] else [⟨w,n,IN b g w n,Uo b g w n⟩]
def Up (b:aI) (g:List aF) (w:Int) (i:Nat):List aF:=(range i).flatMap fun (k:Nat)=>Nr b g w ((k:Int)+1)
def Ce (b:aI) (g:List aF) (i:Nat):List aF:=(range i).flatMap fun (k:Nat)=>Up b g ((k:Int)+1) 8
def Rg (b:aI) (g:List aF) (w:Int):Bool:=(range 8).all fun (k:Nat)=>AQ b g w ((k:Int)+1)
def Cd (b:aI) (g:List aF):Bool:=(range 16).all fun (k:Nat)=>Rg b g ((k:Int)+1)
def nw (b:aI) (g:List aF):Int:=if b.okB then (if g.all qc then (if J5 g then (if Cd b g then 0 else 1) else 12) else 3) else 14
def wS (b:aI) (g:List aF):aI:=if nw b g=0 then ⟨b.next,b.ts,Ce b g 16⟩ else ⟨0,[],[]⟩
theorem aed (b:aI) (g:List aF) (w n:Int):(Nr b g w n).length<=1:=by unfold Nr;split<;>simp
theorem Wb (b:aI) (g:List aF) (w:Int) (i:Nat):(Up b g w i).length<=i:=by
 have:=F7 (f:=fun (k:Nat)=>Nr b g w ((k:Int)+1)) (m:=1) (fun k=>aed _ _ _ _) i;simpa [Up] using this
theorem Cf (b:aI) (g:List aF) (i:Nat):(Ce b g i).length<=8*i:=F7 (f:=fun (k:Nat)=>Up b g ((k:Int)+1) 8) (fun k=>Wb _ _ _ _) i
theorem XM {b:aI} (h:b.okB=true):0<=b.next/\b.next<=1099511627776/\b.ts.length<=128:=by
 simp only [aI.okB,cU,iK,gM] at h;omega
theorem qQ {b:aI} {g:List aF} (h:nw b g=0):b.okB=true/\wS b g=⟨b.next,b.ts,Ce b g 16⟩:=by
 refine ⟨?_,by simp [wS,h]⟩;unfold nw at h;split at h
 ·assumption
 ·cases h
theorem Wc {b:aI} {g:List aF} (h:nw b g≠0):wS b g=⟨0,[],[]⟩:=by simp [wS,h]
def gO (b:aI) (t:aL):Int:=if b.okB then (if t.okB then (if 128<=b.ts.length then 9 else if b.next=1099511627776 then 1 else nw b (fT t false)) else 3) else 14
def jf (b:aI) (t:aL):aI:=if gO b t=0 then ⟨b.next+1,b.ts++[{ t with no:=b.next+1,off:=false }],Ce b (fT t false) 16⟩ else ⟨0,[],[]⟩
def oL (b:aI) (t:aL):Int:=if gO b t=0 then b.next+1 else 0
theorem Ol (t:aL) (k:Bool):(fT t k).length<=2:=by unfold fT;split<;>simp
theorem xB {n:Int}:∀ {ts:List aL},¬ lR n ts < 0->∃ (i:Nat) (h:i < ts.length),lR n ts=i/\onB n ts[i]=true
 | [],h=>by simp [lR] at h
 | t :: r,h=>by
  simp only [lR] at h |-;split at h
  ·rename_i a;exact ⟨0,by simp,by rw [aq a];rfl,a⟩
  ·rename_i a;split at h
   ·omega
   ·rename_i b;obtain ⟨i,hi,e,c⟩:=xB (ts:=r) b;refine ⟨i+1,by simp;omega,?_,by simpa using c⟩;rw [ak a,ak b,e];rfl
def bN (n:Int) (ts:List aL):aL:=ts.getD (lR n ts).toNat ⟨0,0,0,0,0,0,false⟩
def Vj (n:Int) (ts:List aL):List aL:=ts.set (lR n ts).toNat { bN n ts with off:=true }
def fY (b:aI) (n:Int):Int:=if b.okB then (if lR n b.ts < 0 then 10 else nw b (fT (bN n b.ts) true)) else 14
def ct (b:aI) (n:Int):aI:=if fY b n=0 then ⟨b.next,Vj n b.ts,Ce b (fT (bN n b.ts) true) 16⟩ else ⟨0,[],[]⟩
end Go.Proofs.YtccipdjjkcejgaaGreat
