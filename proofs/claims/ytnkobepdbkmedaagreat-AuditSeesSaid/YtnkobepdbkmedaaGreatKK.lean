/- Right states: what a command makes of a state, and what follows. No theorem of a claim. -/
import Derived.Test.YtnkobepdbkmedaaGreatKI
import Derived.Test.YtnkobepdbkmedaaGreatKJ
set_option linter.unusedSimpArgs false
set_option linter.unusedVariables false
set_option maxHeartbeats 4000000
set_option maxRecDepth 16000
namespace Go.Proofs.YtnkobepdbkmedaaGreat
open Go.Abs
theorem oO (s:af) (c:bf) {P:af × Int × Int × Int × List aN × List dO->Prop}
  (a1:P ({ s with aj:=jJ s.aj c.who c.bV },iV s.aj c.who c.bV,0,0,[],[]))
  (a2:P ({ s with aj:=nM s.aj (uN c) },mo s.aj (uN c),0,0,[],[]))
  (a3:P ({ s with aj:=nQ s.aj ⟨c.no,c.cur,c.aR,c.bV⟩ },mz s.aj ⟨c.no,c.cur,c.aR,c.bV⟩,0,0,[],[]))
  (a4:P ((nV s c).1,(nV s c).2,0,0,[],[]))
  (a6:P ((jS s c (nX c)).1,(jS s c (nX c)).2,0,0,[],[]))
  (a9:P (j8 s (bN ⟨1,0,c.cur⟩ ⟨4,0,c.cur⟩ c.bV),rZ s (bN ⟨1,0,c.cur⟩ ⟨4,0,c.cur⟩ c.bV),0,0,[],[]))
  (a10:P ((iL s c).1,(iL s c).2.2,(iL s c).2.1,0,[],[]))
  (a14:P (jA s,gJ s,0,0,oV s,[]))
  (a15:P (iZ s,iA s,0,0,m9 s,[]))
  (a16:P (rL s,rR s,0,0,[],[]))
  (a17:P (gD s c.bV,nR s c.bV,0,0,wQ s c.bV,[]))
  (a18:P ((pW s c).1,(pW s c).2,0,0,[],[]))
  (a19:P (lT s c.who,uq s c.who,0,0,G7 s c.who,Gt s c.who))
  (a20:P ((j6 3 0 s []).1,(j6 3 0 s []).2.2,0,0,(j6 3 0 s []).2.1,[]))
  (a0:∀ e v,P (s,e,0,v,[],[])):P (fj s c):=by
 unfold fj
 by_cases k0:c.kind=1
 ·rw [if_pos k0];exact a1
 rw [if_neg k0]
 by_cases k1:c.kind=2
 ·rw [if_pos k1];exact a2
 rw [if_neg k1]
 by_cases k2:c.kind=3
 ·rw [if_pos k2];exact a3
 rw [if_neg k2]
 by_cases k3:c.kind=4\/c.kind=5\/c.kind=8
 ·rw [if_pos k3];exact a4
 rw [if_neg k3]
 by_cases k4:c.kind=6\/c.kind=7
 ·rw [if_pos k4];exact a6
 rw [if_neg k4]
 by_cases k5:c.kind=9
 ·rw [if_pos k5];split
  ·exact a9
  ·exact a0 _ _
 rw [if_neg k5]
 by_cases k6:c.kind=10\/c.kind=11\/c.kind=12\/c.kind=13
 ·rw [if_pos k6];split
  ·exact a10
  ·exact a0 _ _
 rw [if_neg k6]
 by_cases k7:c.kind=14
 ·rw [if_pos k7];exact a14
 rw [if_neg k7]
 by_cases k8:c.kind=15
 ·rw [if_pos k8];exact a15
 rw [if_neg k8]
 by_cases k9:c.kind=16
 ·rw [if_pos k9];exact a16
 rw [if_neg k9]
 by_cases k10:c.kind=17
 ·rw [if_pos k10];exact a17
 rw [if_neg k10]
 by_cases k11:c.kind=18
 ·rw [if_pos k11];exact a18
 rw [if_neg k11]
 by_cases k12:c.kind=19
 ·rw [if_pos k12];exact a19
 rw [if_neg k12]
 by_cases k13:c.kind=20
 ·rw [if_pos k13];exact a20
 rw [if_neg k13]
 by_cases k14:c.kind=21
 ·rw [if_pos k14];split
  ·exact a0 _ _
  ·exact a0 _ _
 rw [if_neg k14]
 by_cases k15:c.kind=22
 ·rw [if_pos k15];split
  ·exact a0 _ _
  ·exact a0 _ _
 rw [if_neg k15];exact a0 _ _
theorem HZ {s:af} {c:bf} (h:s.right) (he:(fj s c).2.1=0):(fj s c).1.right:=by
 revert he
 exact oO s c (P:=fun m=>m.2.1=0->m.1.right) (fun he=>rF h (J9 he)) (fun he=>rF h (M8 he)) (fun he=>rF h (Ml he)) (fun _=>On h c) (fun _=>Hz h c _) (fun _=>ny h _) (fun he=>Im h c he)
  (fun he=>Hu he) (fun he=>GA he) (fun he=>LG he) (fun he=>Li he) (fun _=>Nl h c) (fun he=>NP he) (fun _=>CO 3 0 [] h) (fun _ _ _=>h)
theorem JZ {s:af} {c:bf} (h:s.right):(aQ s c).1.right:=by
 unfold aQ bA;split
 ·rename_i he;exact HZ h he
 ·exact h
theorem Eo:∀ (l:List Int) (lo hi:Int),l.Pairwise (fun a c=>a < c)->(∀ x∈l,lo<=x/\x < hi)->lo<=hi->(l.length:Int)<=hi-lo
 | [],lo,hi,_,_,h=>by simp;omega
 | x :: r,lo,hi,hp,hx,hlh=>by
  rw [List.pairwise_cons] at hp;have hx0:=hx x (by simp);have:=Eo r (x+1) hi hp.2 (fun y hy=>by have:=hp.1 y hy;have:=hx y (by simp [hy]);omega) (by omega);simp only [List.length_cons];omega
theorem vK {A:Type} {xs:List A} (f:A->Int) (lo hi:Int) {R:A->A->Prop} (hp:xs.Pairwise R) (hf:∀ a∈xs,∀ b∈xs,R a b->f a < f b) (hx:∀ x∈xs,lo<=f x/\f x < hi) (h:lo<=hi):(xs.length:Int)<=hi-lo:=by
 have h1:(xs.map f).Pairwise (fun a c=>a < c):=by
  rw [List.pairwise_map];exact List.Pairwise.imp_of_mem (fun {p q} hp hq hpq=>hf p hp q hq hpq) hp
 have:=Eo _ lo hi h1 (fun x hx'=>by
  obtain ⟨y,hy,rfl⟩:=List.mem_map.1 hx'
  exact hx y hy) h
 rwa [aG] at this
structure af.lens (s:af):Prop where
 ms:s.aj.ms.length<=16
 ns:s.aj.ns.length<=8
 xs:s.aj.xs.length<=6
 ts:s.book.ts.length<=128
 qs:s.book.qs.length<=128
 bs:s.aU.bs.length<=1000
 ps:s.ps.length<=1000
 calls:s.calls.length<=1000
 aW:s.aW.length<=32
 aJ:s.aJ.length<=8
theorem af.right.lens {s:af} (h:s.right):s.lens:=by
 obtain ⟨⟨o1,p1⟩,⟨o2,p2⟩,⟨o3,p3⟩⟩:=eo.1 h.aj;have hl:=iR.1 h.aU;have hg:=gN.1 h.ps;have hc:=nB.1 h.calls;have hs:=(oB (lt:=dG) qk).1 h.aJ;refine ⟨?_,?_,?_,(dD.1 h.book).tl,BO h.book,?_,?_,?_,h.bl,?_⟩
 ·have:=vK ak.no 1 17 p1 (fun _ _ _ _ h=>h) (fun x hx=>by have:=tV (o1 x hx);omega) (by decide);omega
 ·have:=vK au.no 1 9 p2 (fun _ _ _ _ h=>h) (fun x hx=>by have:=AR (o2 x hx);omega) (by decide);omega
 ·have:=vK av.a 1 7 p3 (fun _ _ _ _ h=>h) (fun x hx=>by have:=Bl (o3 x hx);omega) (by decide);omega
 ·have hr:=fun b hb=>qy (qu h.aU b hb)
  have:=vK (fun b:bp=>b.bG.kind*64+b.bG.who*3+b.bG.cur) 0 500 hl.2.1.2 (fun a ha b hb hab=>by
   have:=hr a ha;have:=hr b hb
   rw [mw] at hab;omega) (fun x hx=>by have:=hr x hx;omega) (by decide)
  omega
 ·have hr:∀ p∈s.ps,0<=p.key/\p.key < 500:=fun p hp=>by
   have:=lE.1 (hg.1 p hp).1;unfold eO.key;omega
  have:=vK eO.key 0 500 hg.2 (fun _ _ _ _ h=>h) hr (by decide);omega
 ·have hr:=fun b hb=>tO.1 (hc.1 b hb)
  have:=vK (fun b:aB=>b.who*3+b.cur) 0 500 hc.2 (fun a ha b hb hab=>by
   have:=hr a ha;have:=hr b hb
   simp only [bL,Bool.or_eq_true,bW,decide_eq_true_eq,beq_iff_eq] at hab;omega) (fun x hx=>by have:=hr x hx;omega) (by decide)
  omega
 ·have hr:∀ x∈s.aJ,1<=x.client/\x.client<=8:=fun x hx=>by
   have:=hs.1 x hx;simp only [fc,within,bW,decide_eq_true_eq] at this;omega
  have:=vK bD.client 1 9 hs.2 (fun a _ b _ hab=>by simpa [dG] using hab) (fun x hx=>by have:=hr x hx;omega) (by decide);omega
structure af.gf (s:af):Prop where
 right:s.right
 last:s.aU.last<=1099511627776
 fit:∀ x∈s.aJ,x.r.fits
theorem MS {n:Int} (h:bP n=true):eT n:=by
 rw [cm] at h;exact ⟨by omega,by omega⟩
theorem af.right.cE {s:af} (h:s.right) (hla:s.aU.last<=1099511627776) (hf:∀ x∈s.aJ,x.r.fits):s.cE:=by
 obtain ⟨⟨o1,p1⟩,⟨o2,p2⟩,⟨o3,p3⟩⟩:=eo.1 h.aj;have hb:=dD.1 h.book;have hl:=iR.1 h.aU;have hg:=gN.1 h.ps;have hc:=nB.1 h.calls;have hs:=(oB (lt:=dG) qk).1 h.aJ;have hk:=h.KA;have n0:=hb.n0;have n1:=hb.n1;refine ⟨⟨by omega,by omega⟩,⟨by omega,by omega⟩,⟨by omega,by omega⟩,fun x hx=>?_,fun x hx=>?_,fun x hx=>?_,⟨by omega,by omega⟩,fun x hx=>?_,fun x hx=>?_,?_,fun x hx=>?_,fun x hx=>Qo (hg.1 x hx),fun x hx=>?_,fun x hx=>?_,fun x hx=>?_⟩
 ·have:=tV (o1 x hx);exact ⟨⟨by omega,by omega⟩,⟨by omega,by omega⟩,⟨by omega,by omega⟩⟩
 ·have:=o2 x hx;simp only [au.ok,within,bW,decide_eq_true_eq] at this;have hsh:=fun j=>Cc (o2 x hx) j
  have h0:=hsh 0;have h1:=hsh 1;have h2:=hsh 2;have h3:=hsh 3;have h4:=hsh 4;have h5:=hsh 5;simp only [au.sh] at h0 h1 h2 h3 h4 h5;exact ⟨⟨by omega,by omega⟩,⟨by omega,by omega⟩,⟨by omega,by omega⟩,⟨by omega,by omega⟩,⟨by omega,by omega⟩,⟨by omega,by omega⟩,⟨by omega,by omega⟩,⟨by omega,by omega⟩,⟨by omega,by omega⟩,⟨by omega,by omega⟩,⟨by omega,by omega⟩,⟨by omega,by omega⟩⟩
 ·have:=o3 x hx;simp only [av.ok,within,bW,decide_eq_true_eq] at this;exact ⟨⟨by omega,by omega⟩,⟨by omega,by omega⟩,⟨by omega,by omega⟩,⟨by omega,by omega⟩⟩
 ·have:=hb.tok x hx;simp only [eK,aI.okB,ot,within,bW,Bool.not_eq_true',decide_eq_false_iff_not,decide_eq_true_eq] at this;exact ⟨⟨by omega,by omega⟩,⟨by omega,by omega⟩,⟨by omega,by omega⟩,⟨by omega,by omega⟩,⟨by omega,by omega⟩,⟨by omega,by omega⟩⟩
 ·have:=jI.1 (hb.ok x hx);exact ⟨⟨by omega,by omega⟩,⟨by omega,by omega⟩,⟨by omega,by omega⟩,MS this.2.2.2.1⟩
 ·exact ⟨by omega,by omega⟩
 ·have h1:=qy (qu h.aU x hx);have h2:=hl.2.1.1 x hx;simp only [j0,bW] at h2;simp only [bp.bG] at h1;exact ⟨⟨by omega,by omega⟩,⟨by omega,by omega⟩,⟨by omega,by omega⟩,MS h2.2.1⟩
 ·have:=tO.1 (hc.1 x hx);exact ⟨⟨by omega,by omega⟩,⟨by omega,by omega⟩,⟨by omega,by omega⟩,⟨by omega,by omega⟩⟩
 ·have:=h.aW x hx;simp only [j9,ot,within,bW,decide_eq_true_eq] at this;exact ⟨⟨by omega,by omega⟩,⟨by omega,by omega⟩,⟨by omega,by omega⟩,⟨by omega,by omega⟩,⟨by omega,by omega⟩⟩
 ·have:=hs.1 x hx;simp only [fc,within,bW,decide_eq_true_eq] at this;exact ⟨⟨by omega,by omega⟩,⟨by omega,by omega⟩,trivial,trivial,trivial,trivial,trivial,hf x hx⟩
theorem af.gf.good {s:af} (h:s.gf):s.good:=by
 have l:=h.right.lens;have h1:=l.ms;have h2:=l.ns;have h3:=l.xs;have h4:=l.ts;have h5:=l.qs;have h6:=l.bs;have h7:=l.ps;have h8:=l.calls;have h9:=l.aW;have h10:=l.aJ;exact ⟨⟨⟨by omega,by omega,by omega⟩,⟨by omega,by omega⟩,by omega,by omega,by omega,by omega,by omega,h.fit⟩,h.right.cE h.last h.fit,by omega,by omega,by omega,by omega,by omega⟩
def bq.lo (l:bq):Prop:=l.last<=1099511627776
theorem IM {l:bq} {id:Int} {g:List aX} (h:eH l id g=0):(gG l id g).lo:=by
 unfold gG;rw [if_pos h];exact (IK h).2.1.2
theorem ya {s:af} (g:List aX) (h:s.aU.lo):(j8 s g).aU.lo:=by
 unfold j8;split
 ·rename_i he;exact IM he
 ·exact h
theorem FA {l:bq} {g:List aX} {e:Int} (h:l.lo) (h0:(fm l g e).2=0):(fm l g e).1.lo:=by
 unfold fm at h0 |-;split
 ·rename_i hc;rw [if_pos hc] at h0;exact IM h0
 ·exact h
theorem L9 {s:af} {w:Int}:∀ (m i:Nat) (l:bq) (p:List aN),l.lo->(mW s w m i l p).2.2=0->(mW s w m i l p).1.lo
 | 0,_,_,_,h,_=>h
 | m+1,i,l,p,h,he=>by
  simp only [mW] at he |-;split
  ·rename_i h0;rw [if_pos h0] at he;exact L9 m _ _ _ (FA h h0) he
  ·rename_i h0;rw [if_neg h0] at he;exact absurd he h0
theorem MJ {s:af} (h:s.aU.lo) (c:Int):(uw s c).1.aU.lo:=by
 unfold uw;split
 ·exact ya _ h
 ·exact h
theorem My:∀ (m c:Nat) {s:af} (ds:List aN),s.aU.lo->(j6 m c s ds).1.aU.lo
 | 0,_,_,_,h=>h
 | m+1,c,s,ds,h=>by
  simp only [j6];split
  ·exact My m _ _ (MJ h _)
  ·exact MJ h _
theorem WO {s:af} (h:s.aU.lo) (c:bf):(nV s c).1.aU.lo:=by
 unfold nV;split
 case isFalse=>exact h
 split
 case isFalse=>exact h
 split
 ·exact ya _ h
 split
 ·split
  ·exact ya (s:=s) _ h
  ·exact ya _ h
 ·exact ya _ h
theorem NB {s:af} (h:s.aU.lo) (c:bf) (n:Int):(jS s c n).1.aU.lo:=by
 unfold jS;split
 case isFalse=>exact h
 split
 case isFalse=>exact h
 split
 case isFalse=>exact h
 split
 case isFalse=>exact h
 split
 ·exact h
 split
 ·exact h
 ·exact h
theorem P1 {s:af} (h:s.aU.lo) (c:bf):(iL s c).1.aU.lo:=by
 unfold iL;split
 ·split<;>exact h
 split
 ·exact h
 split
 ·exact h
 split
 ·split<;>exact h
 ·exact h
theorem Xg {s:af} (h:s.aU.lo) (c:bf):(pW s c).1.aU.lo:=by
 unfold pW;split
 case isFalse=>exact h
 split
 case isFalse=>exact h
 split
 ·exact h
 split
 case isFalse=>exact h
 split<;>exact h
theorem O2 {s:af} (h:s.aU.lo) (he:gJ s=0):(jA s).aU.lo:=by
 unfold jA;rw [if_pos he];unfold gJ at he;split at he
 case isFalse=>cases he
 split at he
 case isFalse=>cases he
 split at he
 case isFalse hne=>exact absurd he hne
 split at he
 case isFalse hne=>exact absurd he hne
 exact FA (l:=s.aU) h he
theorem NW {s:af} (h:s.aU.lo) (he:iA s=0):(iZ s).aU.lo:=by
 unfold iZ;rw [if_pos he];exact h
theorem St {s:af} (h:s.aU.lo) (he:rR s=0):(rL s).aU.lo:=by
 unfold rL;rw [if_pos he];exact h
theorem SO {s:af} {n:Int} (h:s.aU.lo) (he:nR s n=0):(gD s n).aU.lo:=by
 unfold gD;rw [if_pos he];exact h
theorem Vx {s:af} {w:Int} (h:s.aU.lo) (he:uq s w=0):(lT s w).aU.lo:=by
 unfold lT;rw [if_pos he];exact L9 3 0 s.aU [] h (F6 he).2.2.2
theorem P0 {s:af} {c:bf} (h:s.aU.lo) (he:(fj s c).2.1=0):(fj s c).1.aU.lo:=by
 revert he
 exact oO s c (P:=fun m=>m.2.1=0->m.1.aU.lo) (fun _=>h) (fun _=>h) (fun _=>h) (fun _=>WO h c) (fun _=>NB h c _) (fun _=>ya _ h) (fun _=>P1 h c)
  (fun he=>O2 h he) (fun he=>NW h he) (fun he=>St h he) (fun he=>SO h he) (fun _=>Xg h c) (fun he=>Vx h he) (fun _=>My 3 0 [] h) (fun _ _ _=>h)
theorem J7 {s:af} {w:Int}:∀ (m c:Nat) (x:List aB × List aN),(oa s w m c x).1.2.length<=x.2.length+m
 | 0,_,_=>Nat.le_refl _
 | m+1,c,x=>by
  simp only [oa];split
  ·refine Nat.le_trans (J7 m _ _) ?_;simp only [List.length_append];have:(mE w c (Qc s w c)).length<=1:=by unfold mE;split<;>simp
   omega
  ·dsimp only;omega
theorem E7 {s:af}:∀ (ws:List Int) (x:List aB × List aN),(qS s ws x).1.2.length<=x.2.length+3*ws.length
 | [],_=>Nat.le_refl _
 | w :: r,x=>by
  have h1:=J7 (s:=s) (w:=w) 3 0 x;simp only [qS,List.length_cons];split
  ·have h2:=E7 (s:=s) r (oa s w 3 0 x).1;omega
  ·omega
theorem Mf {s:af} {w:Int}:∀ (m i:Nat) (l:bq) (p:List aN),(mW s w m i l p).2.1.length<=p.length+m
 | 0,_,_,_=>Nat.le_refl _
 | m+1,i,l,p=>by
  simp only [mW];split
  ·refine Nat.le_trans (Mf m _ _ _) ?_;simp only [List.length_append];have:(mE w i (ir s w i).2.1).length<=1:=by unfold mE;split<;>simp
   omega
  ·dsimp only;omega
theorem Ox (s:af) (c:Int):(uw s c).1.aj=s.aj:=by
 unfold uw j8;split
 ·split<;>rfl
 ·rfl
theorem MW:∀ (m c:Nat) (s:af) (ds:List aN),(j6 m c s ds).2.1.length<=ds.length+m*s.aj.ms.length
 | 0,_,_,_=>by simp [j6]
 | m+1,c,s,ds=>by
  simp only [j6];split
  ·refine Nat.le_trans (MW m _ _ _) ?_;rw [Ox];have:=yM s.aU s.aj c;simp only [List.length_append,Nat.succ_mul];omega
  ·simp
theorem IE {s:af} (h:s.lens):(oV s).length<=1000:=by
 have hq:=h.qs;unfold oV iy;split
 ·have:=(Ht (pQ s.aj s.book)).2;have:(pQ s.aj s.book).length<=s.book.qs.length:=by unfold pQ;split<;>simp
  omega
 ·simp
theorem JX {s:af} (h:s.lens):(m9 s).length<=1000:=by
 have hm:=h.ms;unfold m9 ON;split
 ·have h1:=E7 (s:=s) (mL s.aj [1]) (s.calls,[]);have h2:(mL s.aj [1]).length<=s.aj.ms.length:=bY _ _ _;simp only [List.length_nil] at h1;omega
 ·simp
theorem Oy {s:af} (n:Int) (h:s.lens):(wQ s n).length<=1000:=by
 have hc:=h.calls;unfold wQ;split
 ·rw [aG];have:=EB (s.now+n) s.calls;omega
 ·simp
theorem Qq {s:af} (w:Int):(G7 s w).length<=1000:=by
 unfold G7;split
 ·have:=Mf (s:=s) (w:=w) 3 0 s.aU [];simp only [List.length_nil] at this;omega
 ·simp
theorem Rj {s:af} (w:Int):(Gt s w).length<=1000:=by
 unfold Gt;split
 ·rw [oJ];omega
 ·simp
theorem DJ {s:af} (h:s.lens):(j6 3 0 s []).2.1.length<=1000:=by
 have hm:=h.ms;have:=MW 3 0 s [];simp only [List.length_nil] at this;omega
theorem Ny {s:af} {c:bf} (h:s.lens):(fj s c).2.2.2.2.1.length<=1000/\(fj s c).2.2.2.2.2.length<=1000:=by
 have z:([]:List aN).length<=1000/\([]:List dO).length<=1000:=⟨Nat.zero_le _,Nat.zero_le _⟩
 exact oO s c (P:=fun m=>m.2.2.2.2.1.length<=1000/\m.2.2.2.2.2.length<=1000) z z z z z z z ⟨IE h,z.2⟩ ⟨JX h,z.2⟩ z ⟨Oy _ h,z.2⟩ z ⟨Qq _,Rj _⟩ ⟨DJ h,z.2⟩ (fun _ _=>z)
theorem Cs {s:af} {c:bf} (h:s.lens):(aQ s c).2.fits:=by
 have hl:=Ny (c:=c) h;unfold aQ bA;split
 ·simp only [bk.fits];omega
 ·simp [bk.fits,bk.err]
theorem KM {s:af} {c:bf} (h:s.gf):(aQ s c).1.right/\(aQ s c).1.aU.lo:=by
 refine ⟨JZ h.right,?_⟩;unfold aQ bA;split
 ·rename_i he;exact P0 h.last he
 ·exact h.last
def nU (s:af) (c:bf) (r:bk) (i:Nat):List bD:=
 if (i:Int)+1=c.client then [⟨(i:Int)+1,c.seq,r⟩] else if 0<=gv ((i:Int)+1) s.aJ 0 then [kN s (gv ((i:Int)+1) s.aJ 0)] else []
def uz (s:af) (c:bf):af × bk:=if (lC s c).2 then (s,(lC s c).1) else ({ (aQ s c).1 with aJ:=oo (nU s c (aQ s c).2) 8 },(aQ s c).2)
theorem Bd (n:Int):∀ (l:List bD) (k:Int),0<=k->0<=gv n l k->∃ (j:Nat) (h:j < l.length),gv n l k=k+j/\l[j].client=n
 | [],k,_,h=>by simp [gv] at h
 | x :: r,k,hk,h=>by
  simp only [gv] at h |-;split
  ·rename_i hx;exact ⟨0,by simp,by simp,by simpa using hx⟩
  ·rename_i hx;rw [if_neg hx] at h;obtain ⟨j,h1,h2,h3⟩:=Bd n r (k+1) (by omega) h;exact ⟨j+1,by simp;omega,by rw [h2];omega,by simpa using h3⟩
theorem vn {s:af} {n:Int} (h:0<=gv n s.aJ 0):kN s (gv n s.aJ 0)∈s.aJ/\(kN s (gv n s.aJ 0)).client=n:=by
 obtain ⟨j,hj,e,hc⟩:=Bd n s.aJ 0 (by omega) h;unfold kN;rw [e,Int.zero_add,Int.toNat_natCast,List.getD_eq_getElem?_getD,List.getElem?_eq_getElem hj];exact ⟨List.getElem_mem hj,hc⟩
theorem MM {x:bD}:fc x=true ↔ (1<=x.client/\x.client<=8)/\1<=x.seq/\x.seq<=1099511627776:=by
 simp only [fc,within,bW,decide_eq_true_eq]
theorem Iu {c:bf} (h:wz c=0):(1<=c.kind/\c.kind<=22)/\1<=c.client/\c.client<=8:=by
 unfold wz at h;split at h
 case isFalse=>cases h
 rename_i h1;split at h
 case isFalse=>cases h
 split at h
 case isFalse=>cases h
 split at h
 case isFalse=>cases h
 rename_i h2;simp only [within,bW,decide_eq_true_eq] at h1 h2;exact ⟨h1,h2⟩
theorem AV {c:bf} {last:Int} (h:(x9 c last).2=false) (hl:0<=last/\last<=1099511627776):c.seq=last+1/\c.seq<=1099511627776:=by
 unfold x9 at h;split at h
 case isFalse=>cases h
 rename_i h1;split at h
 ·cases h
 rename_i h2;rw [bz (by omega) (by omega)] at h1;omega
theorem Ko {s:af} {c:bf} (hs:s.right) (h:(lC s c).2=false):wz c=0/\1<=c.seq/\c.seq<=1099511627776:=by
 have hse:=(oB (lt:=dG) qk).1 hs.aJ;unfold lC at h;split at h
 case isFalse=>cases h
 rename_i h1;split at h
 ·rename_i h2;have hm:=MM.1 (hse.1 _ (vn h2).1);split at h
  ·cases h
  split at h
  ·cases h
  have:=AV h (by omega);exact ⟨h1,by omega,this.2⟩
 ·have:=AV h (by omega);exact ⟨h1,by omega,this.2⟩
theorem Jn (s:af) (c:bf) (hs:s.gf):∀ i,i < 8->∀ x∈nU s c (aQ s c).2 i,x.client=(i:Int)+1/\(x∈s.aJ\/x=⟨c.client,c.seq,(aQ s c).2⟩):=by
 intro i hi x hx;unfold nU at hx;split at hx
 ·rename_i h;obtain rfl:=List.mem_singleton.1 hx;exact ⟨rfl,.inr (by rw [h])⟩
 ·split at hx
  ·rename_i h;obtain rfl:=List.mem_singleton.1 hx;exact ⟨(vn h).2,.inl (vn h).1⟩
  ·cases hx
theorem Rr {s:af} {c:bf} (h:s.gf):(uz s c).1.gf:=by
 unfold uz;split
 ·exact h
 rename_i hk;obtain ⟨f,k1,k2⟩:=Ko h.right (by simpa using hk);obtain ⟨d1,d2⟩:=KM (c:=c) h;have hS:=Jn s c h;have hse:=(oB (lt:=dG) qk).1 h.right.aJ;have hfit:=Cs (c:=c) h.right.lens;have hcl:=Iu f;refine ⟨⟨d1.KA,d1.aj,d1.book,d1.aU,d1.ps,d1.calls,d1.known,d1.bl,d1.aW,(oB (lt:=dG) qk).2 ⟨fun x hx=>?_,?_⟩⟩,d2,fun x hx=>?_⟩
 ·obtain ⟨i,hi,hx⟩:=iY.1 hx;rcases (hS i hi x hx).2 with hx | rfl
  ·exact hse.1 x hx
  ·rw [MM];dsimp only;omega
 ·refine qM (fun i hi=>tu ?_) fun i j hij hj x hx y hy=>?_
  ·unfold nU;split;simp;split<;>simp
  ·have h1:=(hS i (by omega) x hx).1;have h2:=(hS j hj y hy).1;simp only [dG,decide_eq_true_eq];omega
 ·obtain ⟨i,hi,hx⟩:=iY.1 hx;rcases (hS i hi x hx).2 with hx | rfl
  ·exact h.fit x hx
  ·exact hfit
theorem OL:af.zero.gf:=⟨gA.1 rfl,by decide,fun x hx=>by cases hx⟩
theorem ES {l:bq} (h:l.okB=true) (c:Int):az (fO c l.bs)=0:=by
 have hl:=iR.1 h
 by_cases hc:0<=c/\c<=2
 ·have h0:=(w5.1 hl.2.2.1).2;have h1:=(w5.1 hl.2.2.2.1).2;have h2:=(w5.1 hl.2.2.2.2).2;rcases (by omega:c=0\/c=1\/c=2) with rfl | rfl | rfl
  ·exact h0
  ·exact h1
  ·exact h2
 ·have:fO c l.bs=[]:=by
   unfold fO;rw [List.map_eq_nil_iff,List.filter_eq_nil_iff];intro b hb;have:=qy (qu h b hb);simp only [bp.bG] at this;simp only [beq_iff_eq];omega
  rw [this];rfl
theorem N8 (c:Int) (ks:List Int) (b:bp) (r:List bp):az (nF c ks (b :: r))=(if (b.cur==c&&Ic ks b.kind)=true then b.sum else 0)+az (nF c ks r):=by
 simp only [nF,List.filter_cons];split<;>simp [az]
theorem Mo (c:Int) (bs:List bp):az (nF c [] bs)=az (fO c bs):=by
 induction bs with
 | nil=>rfl
 | cons b r ih =>
  rw [N8,uf,ih,wZ];congr 1;simp only [Ic,List.length_nil,decide_true,Bool.true_or,Bool.and_true,beq_iff_eq]
def m0 (c:Int):aH:=⟨5,0,c⟩
theorem tR {c:Int} (h:0<=c/\c<=2):m0 c∈gE:=by
 rw [wJ];unfold m0 aH.right;rw [if_neg (by dsimp only;omega)];rfl
theorem PM (c:Int):∀ {bs:List bp},bs.Pairwise (fun x y=>x.bG.less y.bG=true)->az (ou c bs)=gB (m0 c) bs
 | [],_=>rfl
 | b :: r,h=>by
  rw [List.pairwise_cons] at h;have ih:=PM c h.2;simp only [ou,List.filter_cons,gB] at ih |-;have e:isVar c b=RS (m0 c) b:=rfl;rw [e]
  by_cases hb:RS (m0 c) b=true
  ·rw [if_pos hb,if_pos hb,List.map_cons,az,ih,wv]
   ·omega
   ·intro x hx hxa;have:=h.1 x hx;rw [tN.1 hb,hxa] at this;exact qw this
  ·rw [if_neg hb,if_neg hb,ih]
theorem KL {a x:aH} {n:Int} (h:x≠a) (r:List bp):gB a (qi x n++r)=gB a r:=by
 unfold qi;split
 ·rfl
 ·simp only [List.cons_append,List.nil_append,gB];rw [if_neg];intro hb;exact h (tN.1 hb)
theorem MT {a:aH} (S:aH->Int):∀ {L:List aH},L.Pairwise (fun x y=>x.less y=true)->a∈L->gB a (L.flatMap fun x=>qi x (S x))=S a
 | [],_,h=>by cases h
 | x :: r,hp,h=>by
  rw [List.pairwise_cons] at hp;rw [List.flatMap_cons]
  by_cases hx:x=a
  ·subst hx;unfold qi;split
   ·rename_i hz;have hz:S x=0:=by simpa using hz
    rw [hz,List.nil_append,wv];intro b hb hba;obtain ⟨y,hy,hb⟩:=List.mem_flatMap.1 hb;split at hb
    ·cases hb
    ·obtain rfl:=List.mem_singleton.1 hb;have:y=x:=hba;have hl:=hp.1 y hy;rw [this] at hl;exact qw hl
   ·simp only [List.cons_append,List.nil_append,gB];rw [if_pos (show RS x ⟨x.kind,x.who,x.cur,S x⟩=true from tN.2 rfl)]
  ·rw [KL hx];rcases List.mem_cons.1 h with h | h
   ·exact absurd h.symm hx
   ·exact MT S hp.2 h
theorem Mt {l:bq} {id:Int} {g:List aX} {a:aH} (h:eH l id g=0) (ha:a∈gE):gB a (gG l id g).bs=gB a l.bs+az (dK a g):=by
 unfold gG;rw [if_pos h];exact MT (mK l g) wM ha
theorem wU (a:aH) (g k:List aX):az (dK a (g++k))=az (dK a g)+az (dK a k):=by
 simp only [dK,pick,List.flatMap_append,cU]
theorem qD {a:aH}:∀ {g:List aX},(∀ x∈g,x.bG≠a)->az (dK a g)=0
 | [],_=>rfl
 | x :: r,h=>by
  rw [lQ,if_neg (h x (by simp)),qD fun y hy=>h y (by simp [hy])];rfl
theorem yE {a:aH} {g:List aX} (ha:a∈gE) (h:mV g=0):az (dK a (iK g))=az (dK a g):=by
 unfold iK;rw [if_pos h];unfold wT
 have key:∀ {L:List aH},L.Pairwise (fun x y=>x.less y=true)->a∈L->az (dK a (L.flatMap fun x=>Bm x (az (dK x g))))=az (dK a g):=by
  intro L
  induction L with
  | nil=>intro _ h;cases h
  | cons x r ih =>
   intro hp hm;rw [List.pairwise_cons] at hp;rw [List.flatMap_cons,wU]
   have hN:∀ y:aH,∀ z∈Bm y (az (dK y g)),z.bG=y:=fun y z hz=>by
    unfold Bm at hz;split at hz
    ·cases hz
    ·obtain rfl:=List.mem_singleton.1 hz;rfl
   by_cases hx:x=a
   ·subst hx
    rw [qD (g:=r.flatMap _) (fun z hz hza=>by
     obtain ⟨y,hy,hz⟩:=List.mem_flatMap.1 hz;have:=hN y z hz;have hl:=hp.1 y hy;rw [<- this,hza] at hl
     exact qw hl)]
    unfold Bm;split
    ·rename_i hz;have hz:az (dK x g)=0:=by simpa using hz
     rw [hz];rfl
    ·rw [lQ,if_pos (show aX.bG ⟨x.kind,x.who,x.cur,az (dK x g)⟩=x from rfl)];simp [dK,pick,az]
   ·rw [qD (g:=Bm x _) (fun z hz hza=>hx (by rw [<- hN x z hz];exact hza))];rcases List.mem_cons.1 hm with h | h
    ·exact absurd h.symm hx
    ·rw [ih hp.2 h];omega
 exact key wM ha
theorem Of {a x y:aH} {n:Int} (hn:bP n=true):az (dK a (bN x y n))=(if x=a then -n else 0)+(if y=a then n else 0):=by
 unfold bN;rw [hn,if_pos rfl,lQ,lQ]
 show (if x=a then -n else 0)+((if y=a then n else 0)+0)=_
 omega
theorem KU {x y:aH} {n:Int} {k:aX} (h:k∈bN x y n):k.bG=x\/k.bG=y:=by
 unfold bN at h;simp only [List.mem_cons,List.not_mem_nil,or_false] at h;rcases h with rfl | rfl
 ·exact .inl rfl
 ·exact .inr rfl
theorem QK {a x y:aH} {n:Int} (h1:x≠a) (h2:y≠a):az (dK a (bN x y n))=0:=
 qD fun k hk=>by rcases KU hk with e | e<;>rw [e]<;>assumption
theorem HF {A:Type} (l m:List A) (F:A->Int):tot (l++m) F=tot l F+tot m F:=by
 simp only [tot,List.map_append,cU]
theorem sF {A B:Type} (f:A->List B) (F:B->Int) (L:List A):tot (L.flatMap f) F=tot L (fun a=>tot (f a) F):=by
 induction L with
 | nil=>rfl
 | cons x r ih=>rw [List.flatMap_cons,HF,ih];rfl
theorem RW {A:Type} (L:List A) (F:A->Int) (m:Int):tot L (fun a=>m*F a)=m*tot L F:=by
 induction L with
 | nil=>simp [tot,az]
 | cons x r ih=>rw [eP,eP,ih,Int.mul_add]
def wc (m:Int->Int) (p:aA):Int:=m p.inst*p.cost
theorem VQ (m:Int->Int) (b:aF) (g:List aA) (w n:Int):tot (D8 b g w n) (wc m)=m n*Rs b g w n:=by
 unfold D8;split
 ·rename_i h;simp only [bW,beq_iff_eq] at h;rw [h.2];simp [tot,az]
 ·simp [tot,az,wc]
theorem aee {n v:Int} {m:Int->Int} (h:1<=n/\n<=8):tot (List.range 8) (fun j=>if n=(j:Int)+1 then m ((j:Int)+1)*v else 0)=m n*v:=by
 rw [wG (Df 8) (x:=(n-1).toNat) (List.mem_range.2 (by omega))]
 ·rw [if_pos (by omega),show (((n-1).toNat:Nat):Int)+1=n by omega]
 ·intro a ha;rw [if_neg (by omega)]
theorem Rm {m:Int->Int} {p:aA} (h1:1<=p.who/\p.who<=16) (h2:1<=p.inst/\p.inst<=8):tot (List.range 16) (fun k=>tot (List.range 8) (fun j=>if p.who=(k:Int)+1 then (if p.inst=(j:Int)+1 then m ((j:Int)+1)*p.cost else 0) else 0))=wc m p:=by
 have e:∀ k∈List.range 16,tot (List.range 8) (fun j=>if p.who=(k:Int)+1 then (if p.inst=(j:Int)+1 then m ((j:Int)+1)*p.cost else 0) else 0)=if p.who=(k:Int)+1 then wc m p else 0:=fun k _=>by
  by_cases hw:p.who=(k:Int)+1
  ·simp only [if_pos hw];exact aee h2
  ·simp only [if_neg hw];exact gC fun _ _=>rfl
 rw [ct e,PK h1]
theorem US (m:Int->Int):∀ {qs:List aA},(∀ p∈qs,(1<=p.who/\p.who<=16)/\1<=p.inst/\p.inst<=8)->qs.Pairwise (fun x y=>fP x y=true)->tot (List.range 16) (fun k=>tot (List.range 8) (fun j=>m ((j:Int)+1)*(posOf ((k:Int)+1) ((j:Int)+1) qs).cost))=tot qs (wc m)
 | [],_,_=>by
  refine gC fun a _=>gC fun b _=>?_
  simp [posOf]
 | p :: r,h1,h2=>by
  rw [List.pairwise_cons] at h2;rw [eP,<- US m (fun x hx=>h1 x (by simp [hx])) h2.2,<- Rm (m:=m) (h1 p (by simp)).1 (h1 p (by simp)).2,<- gR];refine ct fun k _=>?_
  rw [<- gR];refine ct fun j _=>?_
  simp only [posOf]
  by_cases hw:p.who=(k:Int)+1
  ·rw [if_pos hw]
   by_cases hn:p.inst=(j:Int)+1
   ·rw [if_pos hn,if_pos (eC.2 ⟨hw,hn⟩)];rw [lF (qs:=r)]
    ·simp
    ·intro x hx hk;have:=h2.1 x hx;simp only [fP,Ba,Bool.or_eq_true,bW,decide_eq_true_eq,beq_iff_eq] at this;omega
   ·rw [if_neg hn,if_neg (fun h=>hn (eC.1 h).2)];omega
  ·rw [if_neg hw,if_neg (fun h=>hw (eC.1 h).1)];omega
theorem aaZ (m:Int->Int):∀ {g:List aA},(∀ p∈g,(1<=p.who/\p.who<=16)/\1<=p.inst/\p.inst<=8)->tot (List.range 16) (fun k=>tot (List.range 8) (fun j=>m ((j:Int)+1)*az (pick (dM ((k:Int)+1) ((j:Int)+1)) aA.cost g)))=tot g (wc m)
 | [],_=>by
  refine gC fun a _=>gC fun b _=>?_
  simp [pick,az]
 | p :: r,h1=>by
  rw [eP,<- aaZ m (fun x hx=>h1 x (by simp [hx])),<- Rm (m:=m) (h1 p (by simp)).1 (h1 p (by simp)).2,<- gR];refine ct fun k _=>?_
  rw [<- gR];refine ct fun j _=>?_
  rw [nA,Int.mul_add];congr 1
  by_cases hw:p.who=(k:Int)+1
  ·rw [if_pos hw]
   by_cases hn:p.inst=(j:Int)+1
   ·rw [if_pos (eC.2 ⟨hw,hn⟩),if_pos hn]
   ·rw [if_neg (fun h=>hn (eC.1 h).2),if_neg hn];simp
  ·rw [if_neg hw,if_neg (fun h=>hw (eC.1 h).1)];simp
theorem K4 (m:Int->Int) {b:aF} {g:List aA} (h:jj b g=0):tot (vO b g 16) (wc m)=tot b.qs (wc m)+tot g (wc m):=by
 obtain ⟨h1,_,_⟩:=tQ h;have hb:=dD.1 (kg h).1;unfold vO;rw [sF,<- US m (fun p hp=>⟨(jI.1 (hb.ok p hp)).1,(jI.1 (hb.ok p hp)).2.1⟩) hb.pw,<- aaZ m (fun p hp=>Mc (List.all_eq_true.1 h1 p hp)),<- gR];refine ct fun k _=>?_
 unfold Ky;rw [sF,<- gR];refine ct fun j _=>?_
 rw [VQ,<- Int.mul_add];rfl
theorem MF (m:Int->Int) (t:aI) (b:Bool):tot (fV t b) (wc m)=0:=by
 unfold fV;split
 ·simp only [tot,List.map_cons,List.map_nil,az,wc,Int.neg_mul,Int.mul_neg];omega
 ·rfl
theorem SI (m:Int->Int) (w n:Int) (long:Bool) (f:List dP):tot (f.flatMap (uy w n long)) (wc m)=0:=by
 rw [sF];refine gC fun x _=>?_
 simp only [uy,tot,List.map_cons,List.map_nil,az,wc,Int.mul_neg];omega
theorem Cv (m:Int->Int) {b:aF} {w n:Int} {long:Bool} {f:List dP} (h:(mB b w n long f).2=0):tot (mB b w n long f).1.qs (wc m)=tot b.qs (wc m):=by
 unfold mB at h |-;split
 case isFalse=>rfl
 rename_i he;rw [if_pos he] at h;dsimp only at h |-;rw [(kg h).2]
 show tot (vO b (kQ w n long f) 16) (wc m)=_
 rw [K4 m h,show kQ w n long f=f.flatMap (uy w n long) from by unfold kQ;rw [if_pos he],SI];omega
theorem QH (m:Int->Int) {b:aF} {w n p rest:Int} {long:Bool} (h:(p9 b w n p long rest).2=0):tot (p9 b w n p long rest).1.qs (wc m)=tot b.qs (wc m):=by
 unfold p9 at h |-;split
 case isFalse=>rfl
 rename_i he;rw [if_pos he] at h;exact Cv m h
theorem K7 (m:Int->Int) {s:af} {b:aF} {w n:Int} (h:(gT s w b n).2=0):tot (gT s w b n).1.qs (wc m)=tot b.qs (wc m):=by
 unfold gT at h |-;split
 ·rfl
 rename_i hq;rw [if_neg hq] at h;generalize (posOf w n b.qs).aV=q at h |-;unfold nO at h |-;split
 case isFalse=>rfl
 rename_i hp;rw [if_pos hp] at h;split
 case isFalse=>rfl
 rename_i hf;rw [if_pos hf] at h;split
 ·rename_i hc;rw [if_pos hc] at h;rw [QH m h,Cv m hc.1]
 ·rename_i hc;rw [if_neg hc] at h;exact Cv m h
theorem Mh (m:Int->Int) {s:af} {w:Int}:∀ (k i:Nat) {b:aF},(mj s w k i b).2=0->tot (mj s w k i b).1.qs (wc m)=tot b.qs (wc m)
 | 0,_,_,_=>rfl
 | k+1,i,b,h=>by
  simp only [mj] at h |-;split
  ·rename_i h0;rw [if_pos h0] at h;rw [Mh m k (i+1) h,K7 m h0]
  ·rename_i h0;rw [if_neg h0] at h;exact absurd h h0
def mR (r:aq) (c:Int) (n:Int):Int:=if (aZ r n&&(aT r n).cur==c)=true then (aT r n).mult else 0
theorem TB (r:aq) (c:Int):Vb r c=wc (mR r c):=by
 funext p
 unfold Vb wc mR;split<;>simp
def cB (s:af):Prop:=∀ c:Int,0<=c/\c<=2->gB (m0 c) s.aU.bs+tot s.book.qs (wc (mR s.aj c))=0
theorem Qe {r r':aq} (e:r.ext r') {n:Int} (hi:aZ r n=true) (c:Int):mR r' c n=mR r c n:=by
 unfold mR;rw [hi,e.inst n hi,(e.same n hi).1,(e.same n hi).2]
theorem VO {r r':aq} (e:r.ext r') {qs:List aA} (hq:∀ p∈qs,aZ r p.inst=true) (c:Int):tot qs (wc (mR r' c))=tot qs (wc (mR r c)):=
 ct fun p hp=>by unfold wc;rw [Qe e (hq p hp)]
theorem Uv {r r':aq} (h:r'.ns=r.ns) (c:Int):mR r' c=mR r c:=by
 funext n
 unfold mR aZ aT;rw [h]
theorem qJ {s:af} (h:s.right) (hp:cB s) {r':aq} (e:s.aj.ext r'):cB { s with aj:=r' }:=fun c hc=>by
 dsimp only;rw [VO e (fun p hp=>(h.known.qs p hp).2)];exact hp c hc
def nS (g:List aX):Prop:=∀ c:Int,0<=c/\c<=2->az (dK (m0 c) g)=0
theorem I2 {g:List aX} (h:∀ x∈g,x.kind≠5):nS g:=fun c _=>qD fun x hx e=>h x hx (by
 have:=congrArg aH.kind e
 exact this)
theorem C2 {g:List aX} (h:nS g):nS (iK g):=fun c hc=>by
 by_cases he:mV g=0
 ·rw [yE (tR hc) he];exact h c hc
 ·unfold iK;rw [if_neg he];rfl
theorem OQ {g k:List aX} (h1:nS g) (h2:nS k):nS (g++k):=fun c hc=>by
 rw [wU,h1 c hc,h2 c hc];rfl
theorem LC {x y:aH} {n:Int} (h1:x.kind≠5) (h2:y.kind≠5):nS (bN x y n):=fun c _ =>
 QK (fun e=>h1 (congrArg aH.kind e)) (fun e=>h2 (congrArg aH.kind e))
theorem nP {k1 w1 c1 k2 w2 c2 n:Int} (h1:k1≠5) (h2:k2≠5):nS (bN ⟨k1,w1,c1⟩ ⟨k2,w2,c2⟩ n):=LC h1 h2
theorem nC {s:af} (hp:cB s) {g:List aX} (hg:nS g):cB (j8 s g):=by
 unfold j8;split
 ·rename_i he;intro c hc;dsimp only;rw [Mt he (tR hc),hg c hc,Int.add_zero];exact hp c hc
 ·exact hp
theorem NH {s:af} (hp:cB s) (c:bf):cB (nV s c).1:=by
 unfold nV;split
 case isFalse=>exact hp
 split
 case isFalse=>exact hp
 split
 ·exact nC hp (nP (by decide) (by decide))
 split
 ·split
  ·exact nC (s:=s) hp (nP (by decide) (by decide))
  ·exact nC hp (nP (by decide) (by decide))
 ·exact nC hp (nP (by decide) (by decide))
theorem GR {s:af} (hp:cB s) (c:bf) (n:Int):cB (jS s c n).1:=by
 unfold jS;split
 case isFalse=>exact hp
 split
 case isFalse=>exact hp
 split
 case isFalse=>exact hp
 split
 case isFalse=>exact hp
 split
 ·exact hp
 split<;>exact hp
theorem ND (l:bq) (c:Int) (m:ak):nS (iH l c m):=by
 unfold iH;split
 ·exact nP (by decide) (by decide)
 ·intro _ _;rfl
theorem Lx (l:bq) (r:aq) (c:Int):nS (fy l r c):=by
 unfold fy;split
 ·refine C2 ?_
  have:∀ ms:List ak,nS (ms.flatMap (iH l c)):=fun ms=>by
   induction ms with
   | nil=>intro _ _;rfl
   | cons m t ih=>rw [List.flatMap_cons];exact OQ (ND l c m) ih
  exact this _
 ·intro _ _;rfl
theorem Bu {s:af} (hp:cB s) (c:Int):cB (uw s c).1:=by
 unfold uw;split
 ·exact nC hp (Lx _ _ _)
 ·exact hp
theorem CV:∀ (m c:Nat) {s:af} (ds:List aN),cB s->cB (j6 m c s ds).1
 | 0,_,_,_,h=>h
 | m+1,c,s,ds,h=>by
  simp only [j6];split
  ·exact CV m _ _ (Bu h _)
  ·exact Bu h _
theorem Ka (m:Int->Int) {b:aF} {t:aI} (he:fJ b t=0):tot (gS b t).qs (wc m)=tot b.qs (wc m):=by
 unfold gS;rw [if_pos he];dsimp only;rw [K4 m (FC he).2.2.2.2,MF];omega
theorem FJ (m:Int->Int) {b:aF} {n:Int} (he:eg b n=0):tot (dI b n).qs (wc m)=tot b.qs (wc m):=by
 unfold dI;rw [if_pos he];dsimp only;rw [K4 m (nL he).2.2,MF];omega
theorem IC {s:af} (h:s.right) (hp:cB s) (c:bf) (he:(iL s c).2.2=0):cB (iL s c).1:=by
 unfold iL at he |-;split
 ·rename_i hk;rw [if_pos hk] at he;split
  ·rename_i ht;rw [if_pos ht] at he;intro x hx;dsimp only;rw [Ka _ he];exact hp x hx
  ·exact hp
 rename_i hk;rw [if_neg hk] at he;split
 ·rename_i hk;rw [if_pos hk] at he;exact qJ h hp (Mk he).2
 rename_i hk;rw [if_neg hk] at he;split
 ·exact hp
 rename_i hf;rw [if_neg hf] at he;split
 case isFalse=>exact hp
 rename_i ha;rw [if_pos ha] at he;split
 ·rename_i hk;rw [if_pos hk] at he;intro x hx;dsimp only;rw [FJ _ he];exact hp x hx
 ·rename_i hk;rw [if_neg hk] at he;obtain ⟨e1,e2⟩:=sE he;intro x hx;dsimp only;unfold nW;rw [if_pos e1,Ka _ e2,FJ _ e1];exact hp x hx
theorem N4 {s:af} (hp:cB s) (c:bf):cB (pW s c).1:=by
 unfold pW;split
 case isFalse=>exact hp
 split
 case isFalse=>exact hp
 split
 ·exact hp
 split
 case isFalse=>exact hp
 split<;>exact hp
def rq (c:Int) (d:aN):Int:=if d.cur=c then d.bV else 0
theorem HW {f:Bool} {last:aN}:∀ (l:List aN) (s:Bool × aN),
  (∀ d∈l,(f||jm last d)=true->(gV f last l s).1=true /\ ¬ jm d (gV f last l s).2=true)/\(s.1=true->(gV f last l s).1=true /\ ¬ jm s.2 (gV f last l s).2=true)
 | [],s=>⟨fun d hd=>(by cases hd),fun h=>⟨h,by rw [gp];simp only [gV];omega⟩⟩
 | x :: r,s=>by
  simp only [gV];obtain ⟨i1,i2⟩:=HW (f:=f) (last:=last) r (if yP f last s x=true then (true,x) else s);constructor
  ·intro d hd hc;rcases List.mem_cons.1 hd with rfl | hd
   ·by_cases hb:yP f last s d=true
    ·rw [if_pos hb] at i2 |-;exact i2 rfl
    ·rw [if_neg hb] at i2 |-;simp only [yP,hc,Bool.true_and,Bool.or_eq_true,Bool.not_eq_true',not_or] at hb;have h1:s.1=true:=by simpa using hb.1
     obtain ⟨j1,j2⟩:=i2 h1;refine ⟨j1,fun h=>?_⟩;have h2:=hb.2;rw [gp] at h j2 h2;omega
   ·exact i1 d hd hc
  ·intro hs
   by_cases hb:yP f last s x=true
   ·rw [if_pos hb] at i2 |-;obtain ⟨j1,j2⟩:=i2 rfl;refine ⟨j1,fun h=>?_⟩;simp only [yP,hs,Bool.not_true,Bool.false_or,bW] at hb;have h2:=hb.2;dsimp only at j2;rw [gp] at h j2 h2;omega
   ·rw [if_neg hb] at i2 |-;exact i2 hs
theorem MI (w c:Int) (l:List aN):az (uv w c l)=tot l (fun d=>if d.who=w/\d.cur=c then d.bV else 0):=by
 induction l with
 | nil=>rfl
 | cons d r ih =>
  unfold uv at ih |-;rw [nA,ih,eP];congr 1;simp only [EC,bW,beq_iff_eq]
theorem H6 {c:Int} {l:List aN} (hl:o9 l=true):∀ (n:Nat) (f:Bool) (last:aN) (out:List aN),LS f last l < n->(Ay l n f last out).2=0->tot (Ay l n f last out).1 (rq c)=tot out (rq c)+tot l (fun d=>if (f||jm last d)=true then rq c d else 0)
 | 0,_,_,_,h,_=>by omega
 | n+1,f,last,out,hn,h=>by
  obtain ⟨hm1,hm2⟩:=HW (f:=f) (last:=last) l (false,.zero);have hmem:=yF (f:=f) (last:=last) (l:=l) (s:=(false,.zero));simp only [Ay] at h |-;obtain ⟨S,hS⟩:=aL (gV f last l (false,.zero));rw [<- hS] at h hm1 hmem |-;split
  ·rename_i hf;rw [if_pos hf] at h;split
   ·rename_i hg;rw [if_pos hg] at h
    obtain ⟨k1,k2⟩:S.2∈l/\(f||jm last S.2)=true:=by
     rcases hmem hf with e | e
     ·rw [e] at hf;cases hf
     ·exact e
    have hlt:=ER k1 k2;rw [H6 hl n false S.2 _ (by omega) h,HF];have hgn:jg S.2.who S.2.cur l=az (uv S.2.who S.2.cur l):=by unfold jg;rw [if_pos hg]
    have e1:tot (Is l S.2) (rq c)=tot l (fun d=>if d.who=S.2.who/\d.cur=S.2.cur then rq c d else 0):=by
     have e2:tot (Is l S.2) (rq c)=if S.2.cur=c then jg S.2.who S.2.cur l else 0:=by
      unfold Is;split
      ·rename_i hz;have hz:jg S.2.who S.2.cur l=0:=by simpa using hz
       rw [hz];split<;>rfl
      ·simp only [tot,List.map_cons,List.map_nil,az,rq];omega
     rw [e2,hgn,MI]
     by_cases hc:S.2.cur=c
     ·rw [if_pos hc];refine ct fun d _=>?_
      by_cases hd:d.who=S.2.who/\d.cur=S.2.cur
      ·rw [if_pos hd,if_pos hd];unfold rq;rw [if_pos (by rw [hd.2,hc])]
      ·rw [if_neg hd,if_neg hd]
     ·rw [if_neg hc,gC];intro d _
      by_cases hd:d.who=S.2.who/\d.cur=S.2.cur
      ·rw [if_pos hd];unfold rq;rw [if_neg (by rw [hd.2];exact hc)]
      ·rw [if_neg hd]
    rw [e1,Int.add_assoc,<- gR];congr 1;refine ct fun d hd=>?_
    by_cases hq:(f||jm last d)=true
    ·rw [if_pos hq];have hmn:=(hm1 d hd hq).2
     by_cases he:d.who=S.2.who/\d.cur=S.2.cur
     ·rw [if_pos he,if_neg]
      ·omega
      ·rw [Bool.false_or,gp];omega
     ·rw [if_neg he,if_pos]
      ·omega
      ·rw [Bool.false_or,gp];rw [gp] at hmn;omega
    ·rw [if_neg hq]
     have hqf:f=false /\ ¬ jm last d=true:=by
      simp only [Bool.or_eq_true,not_or] at hq;exact ⟨by simpa using hq.1,hq.2⟩
     have k2:=k2;rw [hqf.1,Bool.false_or,gp] at k2;have h2:=hqf.2;rw [gp] at h2;rw [if_neg (by omega),if_neg (by rw [Bool.false_or,gp];omega)];rfl
   ·rename_i hg;rw [if_neg hg] at h;exact absurd h hg
  ·rename_i hf
   have:tot l (fun d=>if (f||jm last d)=true then rq c d else 0)=0:=gC fun d hd=>by
    rw [if_neg];intro hq;exact hf (hm1 d hd hq).1
   rw [this];dsimp only;omega
theorem MP {c:Int} {l:List aN} (h:(jq l).2=0):tot (jq l).1 (rq c)=tot l (rq c):=by
 unfold jq at h |-;split
 ·rename_i hm;rw [if_pos hm] at h
  rw [H6 hm _ _ _ _ (by
   have:LS true .zero l<=l.length:=List.countP_le_length
   omega) h]
  simp only [Bool.true_or,if_true];simp [tot,az]
 ·rename_i hm;rw [if_neg hm] at h;cases h
theorem Fj (c:Int):∀ l:List aN,az (dK (m0 c) (nN l)) = -tot l (rq c)
 | []=>rfl
 | d :: r=>by
  have ih:=Fj c r;unfold nN at ih |-;rw [List.flatMap_cons,wU,ih,eP,lQ,lQ]
  have e1:¬ (aX.bG ⟨2,d.who,d.cur,d.bV⟩=m0 c):=by
   intro e;have:=congrArg aH.kind e;cases this
  rw [if_neg e1]
  have e2:(aX.bG ⟨5,0,d.cur,-d.bV⟩=m0 c) ↔ d.cur=c:=by
   simp [aX.bG,m0]
  simp only [e2,rq,dK,pick,List.flatMap_nil,az];split<;>omega
theorem Nr {c:Int} (hc:0<=c/\c<=2) {l:List aN} (h:qz l=0):az (dK (m0 c) (oh l)) = -tot l (rq c):=by
 unfold oh;rw [if_pos h];unfold qz at h;split at h
 case isFalse=>cases h
 split at h
 case isFalse hne=>exact absurd h hne
 rename_i hn;rw [yE (tR hc) h,Fj,MP hn]
theorem El {l:bq} {g:List aX} {e:Int} {a:aH} (ha:a∈gE) (h0:(fm l g e).2=0):e=0/\gB a (fm l g e).1.bs=gB a l.bs+az (dK a g):=by
 unfold fm at h0 |-;split
 ·rename_i hc;rw [if_pos hc] at h0;exact ⟨hc.1,Mt h0 ha⟩
 ·rename_i hc;rw [if_neg hc] at h0;have h0:e=0:=h0
  have hg:g=[]:=by
   by_cases hg:g=[]
   ·exact hg
   ·exact absurd ⟨h0,hg⟩ hc
  rw [hg];exact ⟨h0,by simp [dK,pick,az]⟩
theorem GL {s:af} (hp:cB s) (he:gJ s=0):cB (jA s):=by
 unfold jA;rw [if_pos he];unfold gJ at he;split at he
 case isFalse=>cases he
 rename_i h1;split at he
 case isFalse=>cases he
 split at he
 case isFalse hne=>exact absurd he hne
 rename_i h3;split at he
 case isFalse hne=>exact absurd he hne
 rename_i h4;have hr:=gA.1 h1;have h5:=(MY h3).2.2;intro c hc;dsimp only;obtain ⟨p1,p2⟩:=El (tR hc) (show (fm s.aU (oh (iy s)) (qz (iy s))).2=0 from he)
 have e1:gB (m0 c) (xq s).1.bs=gB (m0 c) s.aU.bs + -tot (pQ s.aj s.book) (rq c):=by
  show gB (m0 c) (fm s.aU (oh (iy s)) (qz (iy s))).1.bs=_
  rw [p2,Nr hc p1];congr 2;exact MP h4
 have e2:∀ r2:aq,(∀ n,aZ s.aj n=true->mR r2 c n=mR s.aj c n)->tot (vr s.aj s.book).qs (wc (mR r2 c))=tot s.book.qs (fun p=>mR s.aj c p.inst*(p.aV*dQ (aT s.aj p.inst))):=fun r2 hm=>by
  unfold vr;rw [if_pos h3];dsimp only;rw [sF];refine ct fun p hpm=>?_
  have hi:=(CC (h5 p hpm)).1;unfold mT;split
  ·rename_i hz;simp only [bW,beq_iff_eq] at hz;rw [hz.2];simp [tot,az]
  ·simp only [tot,List.map_cons,List.map_nil,az,wc];rw [hm _ hi];omega
 have e3:tot (pQ s.aj s.book) (rq c)=tot s.book.qs (fun p=>mR s.aj c p.inst*(p.aV*dQ (aT s.aj p.inst)) + -(wc (mR s.aj c) p)):=by
  unfold pQ;rw [if_pos h3];unfold tot;rw [List.map_map];refine ct (L:=s.book.qs) fun p hpm=>?_
  have hi:=(CC (h5 p hpm)).1
  show rq c (wP s.aj p)=_
  unfold rq wP mR wc gM;simp only [mR,hi,Bool.true_and,beq_iff_eq]
  by_cases hcc:(aT s.aj p.inst).cur=c
  ·simp only [if_pos hcc];generalize (aT s.aj p.inst).mult=m;generalize dQ (aT s.aj p.inst)=pr;have e:p.aV*(pr*m)=m*(p.aV*pr):=by rw [<- Int.mul_assoc,Int.mul_comm]
   have e':-p.cost*m = -(m*p.cost):=by rw [Int.neg_mul,Int.mul_comm]
   rw [e,e']
  ·simp only [if_neg hcc];simp
 rw [e1,e3,e2 _ (fun n hn=>Qe (Ks hr.aj).2 hn c),gR]
 have e4:tot s.book.qs (fun p=>-(wc (mR s.aj c) p)) = -tot s.book.qs (wc (mR s.aj c)):=by
  have:=RW s.book.qs (wc (mR s.aj c)) (-1);rw [show (fun p=>-(wc (mR s.aj c) p))=(fun p=>-1*wc (mR s.aj c) p) from funext fun p=>by omega,this];omega
 rw [e4];have:=hp c hc;omega
theorem JE:∀ (l:List aB) (x:aq × List aB),(∀ c∈l,bB x.1 c.who≠0)->x.1.okB=true->(qA l x).1.ns=x.1.ns
 | [],_,_,_=>rfl
 | c :: r,x,h1,h2=>by
  have h:=tU h2 (h1 c (by simp)) (p:=2) (by omega);obtain ⟨p1,p2,p3,_⟩:=Bv h;simp only [qA]
  rw [JE r _ (fun y hy=>by
   dsimp only;rw [p2];split
   ·decide
   ·exact h1 y (by simp [hy])) p1,p3]
theorem KP {s:af} {n:Int} (hp:cB s) (he:nR s n=0):cB (gD s n):=by
 unfold gD;rw [if_pos he];unfold nR at he;split at he
 case isFalse=>cases he
 rename_i h1;have hr:=gA.1 h1
 have hns:=JE (mN (s.now+n) s.calls) (s.aj,s.calls) (fun c hc=>by
  obtain ⟨x,hx,hc⟩:=List.mem_flatMap.1 hc;split at hc
  ·obtain rfl:=List.mem_singleton.1 hc;have:=hr.known.cs _ hx;dsimp only;omega
  ·cases hc) hr.aj
 intro c hc;dsimp only;rw [Uv hns];exact hp c hc
theorem Mw {k c n all:Int} {ws gs:List Int} (hk:k≠5):nS (sP k c n all ws gs):=by
 unfold sP;split
 ·refine C2 (I2 fun x hx=>?_);unfold BF at hx;rcases List.mem_cons.1 hx with rfl | hx
  ·show (6:Int)≠5
   decide
  ·obtain ⟨i,_,hx⟩:=iY.1 hx;unfold sJ at hx;obtain rfl:=List.mem_singleton.1 hx;exact hk
 ·intro _ _;rfl
theorem Tt (l:bq) (c n:Int) (ws:List Int):nS (za l c n ws):=by
 unfold za;split
 ·exact Mw (by decide)
 ·intro _ _;rfl
theorem NT (r:aq) (c n:Int) (ws:List Int):nS (oA r c n ws):=by
 unfold oA;split
 ·exact Mw (by decide)
 ·intro _ _;rfl
theorem R5 {s:af} {w:Int} {i:Nat} {gain:Int} {f:dO} {a b:Int} {c:Int} (hc:0<=c/\c<=2) (hg:bP gain=true) (h:(kJ s w i gain f a b).2.2=0):az (dK (m0 c) (kJ s w i gain f a b).1)=if (i:Int)=c then -gain else 0:=by
 unfold kJ at h |-;split
 case isFalse hne=>rw [if_neg hne] at h;exact absurd h hne
 rename_i h1;rw [if_pos h1] at h;split
 case isFalse hne=>rw [if_neg hne] at h;exact absurd h hne
 rename_i h2;rw [if_pos h2] at h;split
 case isFalse hne=>rw [if_neg hne] at h;cases h
 rename_i h3;rw [if_pos h3] at h;dsimp only at h |-;rw [yE (tR hc) h];unfold Lv Tf;have hv:∀ (k1 w1 k2 w2 n:Int),k1≠5->k2≠5->az (dK (m0 c) (bN ⟨k1,w1,i⟩ ⟨k2,w2,i⟩ n))=0:=fun k1 w1 k2 w2 n h1 h2=>nP h1 h2 c hc
 simp only [wU];rw [hv 1 0 2 w _ (by decide) (by decide),hv 6 0 2 w _ (by decide) (by decide),hv 2 w 6 0 _ (by decide) (by decide),hv 3 w 6 0 _ (by decide) (by decide),hv 4 0 6 0 _ (by decide) (by decide),hv 2 w 1 0 _ (by decide) (by decide),hv 3 w 1 0 _ (by decide) (by decide),Tt _ _ _ _ c hc,NT _ _ _ _ c hc,Of hg];have e1:((⟨5,0,(i:Int)⟩:aH)=m0 c) ↔ (i:Int)=c:=by simp [m0]
 have e2:¬ ((⟨2,w,(i:Int)⟩:aH)=m0 c):=by simp [m0]
 rw [if_neg e2];simp only [e1];omega
theorem JL {s:af} {w c:Int} (hc:0<=c/\c<=2):∀ (m i:Nat) (l:bq) (p:List aN),(mW s w m i l p).2.2=0->gB (m0 c) (mW s w m i l p).1.bs=gB (m0 c) l.bs+if (i:Int)<=c/\c < (i:Int)+m then -bK s w c.toNat else 0
 | 0,i,l,p,_=>by simp only [mW];rw [if_neg (by omega)];omega
 | m+1,i,l,p,h=>by
  simp only [mW] at h |-;split
  ·rename_i h0;rw [if_pos h0] at h;obtain ⟨p1,p2⟩:=El (tR hc) h0;rw [JL hc m (i+1) _ _ h,p2];have hv:az (dK (m0 c) (ir s w i).1)=if (i:Int)=c then -bK s w i else 0:=R5 hc (yz _ _ _) p1
   rw [hv]
   by_cases hi:(i:Int)=c
   ·have:c.toNat=i:=by omega
    rw [this,if_pos hi,if_neg (by omega),if_pos (by omega)];omega
   ·rw [if_neg hi]
    by_cases hj:(i:Int) < c/\c < (i:Int)+(m+1:Nat)
    ·rw [if_pos (by omega),if_pos (by omega)];omega
    ·rw [if_neg (by omega),if_neg (by omega)];omega
  ·rename_i h0;rw [if_neg h0] at h;exact absurd h h0
theorem SE (m:Int->Int) (w:Int) (l:List aA):tot (mM w l) (wc m)+tot l (fun p=>if p.who=w then wc m p else 0)=tot l (wc m):=by
 unfold mM;rw [sF,<- gR];refine ct fun p _=>?_
 by_cases h:p.who=w
 ·rw [if_pos (by simpa using h),if_pos h];simp [tot,az]
 ·rw [if_neg (by simpa using h),if_neg h];simp [tot,az]
theorem Nb {s:af} {w c:Int}:∀ {l:List aA},(∀ p∈l,aZ s.aj p.inst=true)->az (uv w c (oL s w l)) = -tot l (fun p=>if p.who=w then wc (mR s.aj c) p else 0)
 | [],_=>rfl
 | p :: r,h=>by
  have ih:=Nb (s:=s) (w:=w) (c:=c) (l:=r) fun q hq=>h q (by simp [hq])
  have hi:=h p (by simp);rw [MI] at ih |-;unfold oL at ih |-;rw [List.flatMap_cons,HF,ih,eP]
  have:tot (KE s w p) (fun d=>if d.who=w/\d.cur=c then d.bV else 0) = -(if p.who=w then wc (mR s.aj c) p else 0):=by
   unfold KE
   by_cases hw:p.who=w
   ·rw [if_pos (by simpa using hw),if_pos hw];simp only [tot,List.map_cons,List.map_nil,az,true_and,wc,mR,hi,Bool.true_and,beq_iff_eq,gM];split
    ·generalize (aT s.aj p.inst).mult=m;rw [Int.zero_mul,Int.mul_zero,Int.neg_mul,Int.mul_comm p.cost m];omega
    ·simp
   ·rw [if_neg (by simpa using hw),if_neg hw];rfl
  rw [this];omega
theorem NR {s:af} {w:Int} (hp:cB s) (he:uq s w=0):cB (lT s w):=by
 unfold lT;rw [if_pos he];obtain ⟨e1,e2,_,e4⟩:=F6 he;obtain ⟨hm,hG⟩:=BZ e1;obtain ⟨h1,hs⟩:=tS hm;have hr:=gA.1 h1;have hpz:=tU hr.aj (w:=w) (p:=3) (by omega) (by omega);obtain ⟨_,_,hns,_⟩:=Bv hpz;have hw:=(Hv hr.aj (w:=w) (by omega)).2;have hknow:=(F8 hr hw hs 8 0 rfl (b:=s.book) ⟨hr.book,hr.known,rfl⟩ (fun k hk=>by omega) hG).1.known;have hgA:=u0 e2;intro c hc;dsimp only;rw [Uv hns,JL hc 3 0 s.aU [] e4,if_pos (by omega)];have hq:(oP s w).qs=mM w (mj s w 8 0 s.book).1.qs:=by unfold oP;rw [if_pos e1]
 have hd:pV s w=oL s w (mj s w 8 0 s.book).1.qs:=by unfold pV;rw [if_pos e1]
 have hgE:kR w ((c.toNat:Nat):Int) (pV s w)=0:=hgA c.toNat (by omega) (by omega)
 have hgain:bK s w c.toNat = -tot (mj s w 8 0 s.book).1.qs (fun p=>if p.who=w then wc (mR s.aj c) p else 0):=by
  unfold bK jg;rw [if_pos hgE,hd,show ((c.toNat:Nat):Int)=c by omega];exact Nb fun p hp=>(hknow.qs p hp).2
 have hk:=SE (mR s.aj c) w (mj s w 8 0 s.book).1.qs;have hwp:=Mh (mR s.aj c) (s:=s) (w:=w) 8 0 hG;have:=hp c hc;rw [hq,hgain];omega
theorem Gz {s:af} (hp:cB s) (he:iA s=0):cB (iZ s):=by
 unfold iZ;rw [if_pos he];exact hp
theorem Ls {s:af} (hp:cB s) (he:rR s=0):cB (rL s):=by
 unfold rL;rw [if_pos he];exact hp
theorem IA {s:af} {c:bf} (h:s.right) (hp:cB s) (he:(fj s c).2.1=0):cB (fj s c).1:=by
 revert he
 exact oO s c (P:=fun m=>m.2.1=0->cB m.1) (fun he=>qJ h hp (J9 he).2) (fun he=>qJ h hp (M8 he).2) (fun he=>qJ h hp (Ml he).2) (fun _=>NH hp c) (fun _=>GR hp c _) (fun _=>nC hp (nP (by decide) (by decide)))
  (fun he=>IC h hp c he) (fun he=>GL hp he) (fun he=>Gz hp he) (fun he=>Ls hp he) (fun he=>KP hp he) (fun _=>N4 hp c) (fun he=>NR hp he) (fun _=>CV 3 0 [] hp) (fun _ _ _=>hp)
theorem N1 {s:af} {c:bf} (h:s.right) (hp:cB s):cB (uz s c).1:=by
 unfold uz;split
 ·exact hp
 show cB (aQ s c).1
 unfold aQ bA;split
 ·rename_i he;exact IA h hp he
 ·exact hp
theorem holds_of {s:af} (h:s.right) (hp:cB s):iq s=true:=by
 have hb:=dD.1 h.book;have hl:=iR.1 h.aU;simp only [iq,bW,gA.2 h,true_and,List.all_eq_true];refine ⟨fun i hi=>?_,fun c hc=>⟨?_,?_⟩⟩
 ·simp only [qZ,beq_iff_eq];exact hb.level _ (by omega) (by have:=List.mem_range.1 hi;omega)
 ·simp only [mZ,beq_iff_eq];rw [Mo];exact ES h.aU _
 ·simp only [pZ,beq_iff_eq];rw [cU,PM _ hl.2.1.2]
  have e:az (BV s.aj (c:Nat) s.book.qs)=tot s.book.qs (wc (mR s.aj (c:Nat))):=by
   rw [<- TB];unfold BV Vb;generalize s.book.qs=l
   induction l with
   | nil=>rfl
   | cons p r ih =>
    rw [eP,List.filter_cons];split
    ·rename_i hq;rw [List.map_cons,az,ih]
    ·rename_i hq;rw [ih];omega
  rw [e];exact hp _ (by have:=List.mem_range.1 hc;omega)
end Go.Proofs.YtnkobepdbkmedaaGreat
