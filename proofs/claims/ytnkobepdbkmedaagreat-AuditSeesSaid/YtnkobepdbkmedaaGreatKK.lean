/- Right states: what a command makes of a state, and what follows. No theorem of a claim. -/
import Derived.Test.YtnkobepdbkmedaaGreatKI
import Derived.Test.YtnkobepdbkmedaaGreatKJ
set_option linter.unusedSimpArgs false
set_option linter.unusedVariables false
set_option maxHeartbeats 4000000
set_option maxRecDepth 16000
namespace Go.Proofs.YtnkobepdbkmedaaGreat
open Go.Abs
theorem oS (s:af) (c:aZ) {P:af × Int × Int × Int × List aN × List dM->Prop}
  (a1:P ({ s with aj:=jJ s.aj c.who c.bW },iG s.aj c.who c.bW,0,0,[],[]))
  (a2:P ({ s with aj:=nW s.aj (uT c) },mz s.aj (uT c),0,0,[],[]))
  (a3:P ({ s with aj:=nT s.aj ⟨c.no,c.cur,c.aR,c.bW⟩ },mD s.aj ⟨c.no,c.cur,c.aR,c.bW⟩,0,0,[],[]))
  (a4:P ((nV s c).1,(nV s c).2,0,0,[],[]))
  (a6:P ((jY s c (n8 c)).1,(jY s c (n8 c)).2,0,0,[],[]))
  (a9:P (kF s (bN ⟨1,0,c.cur⟩ ⟨4,0,c.cur⟩ c.bW),sj s (bN ⟨1,0,c.cur⟩ ⟨4,0,c.cur⟩ c.bW),0,0,[],[]))
  (a10:P ((iK s c).1,(iK s c).2.2,(iK s c).2.1,0,[],[]))
  (a14:P (jB s,gP s,0,0,oO s,[]))
  (a15:P (iY s,iB s,0,0,mY s,[]))
  (a16:P (rT s,rS s,0,0,[],[]))
  (a17:P (gq s c.bW,oc s c.bW,0,0,wz s c.bW,[]))
  (a18:P ((p7 s c).1,(p7 s c).2,0,0,[],[]))
  (a19:P (lT s c.who,uv s c.who,0,0,FN s c.who,FU s c.who))
  (a20:P ((j6 3 0 s []).1,(j6 3 0 s []).2.2,0,0,(j6 3 0 s []).2.1,[]))
  (a0:∀ e v,P (s,e,0,v,[],[])):P (fj s c):=by
 unfold fj
 by_cases k0:c.kind=1
 ·rw [if_pos k0];exact a1
 rw [if_neg k0]
 by_cases k1:c.kind=2
 ·rw [if_pos k1];exact a2
 rw [if_neg k1]
 by_cases k2:c.kind=3
 ·rw [if_pos k2];exact a3
 rw [if_neg k2]
 by_cases k3:c.kind=4\/c.kind=5\/c.kind=8
 ·rw [if_pos k3];exact a4
 rw [if_neg k3]
 by_cases k4:c.kind=6\/c.kind=7
 ·rw [if_pos k4];exact a6
 rw [if_neg k4]
 by_cases k5:c.kind=9
 ·rw [if_pos k5];split
  ·exact a9
  ·exact a0 _ _
 rw [if_neg k5]
 by_cases k6:c.kind=10\/c.kind=11\/c.kind=12\/c.kind=13
 ·rw [if_pos k6];split
  ·exact a10
  ·exact a0 _ _
 rw [if_neg k6]
 by_cases k7:c.kind=14
 ·rw [if_pos k7];exact a14
 rw [if_neg k7]
 by_cases k8:c.kind=15
 ·rw [if_pos k8];exact a15
 rw [if_neg k8]
 by_cases k9:c.kind=16
 ·rw [if_pos k9];exact a16
 rw [if_neg k9]
 by_cases k10:c.kind=17
 ·rw [if_pos k10];exact a17
 rw [if_neg k10]
 by_cases k11:c.kind=18
 ·rw [if_pos k11];exact a18
 rw [if_neg k11]
 by_cases k12:c.kind=19
 ·rw [if_pos k12];exact a19
 rw [if_neg k12]
 by_cases k13:c.kind=20
 ·rw [if_pos k13];exact a20
 rw [if_neg k13]
 by_cases k14:c.kind=21
 ·rw [if_pos k14];split
  ·exact a0 _ _
  ·exact a0 _ _
 rw [if_neg k14]
 by_cases k15:c.kind=22
 ·rw [if_pos k15];split
  ·exact a0 _ _
  ·exact a0 _ _
 rw [if_neg k15];exact a0 _ _
theorem Jb {s:af} {c:aZ} (h:s.right) (he:(fj s c).2.1=0):(fj s c).1.right:=by
 revert he
 exact oS s c (P:=fun m=>m.2.1=0->m.1.right) (fun he=>q8 h (HL he)) (fun he=>q8 h (Mm he)) (fun he=>q8 h (MJ he)) (fun _=>Np h c) (fun _=>HB h c _) (fun _=>ny h _) (fun he=>Kk h c he)
  (fun he=>HC he) (fun he=>Hf he) (fun he=>KI he) (fun he=>Lk he) (fun _=>NZ h c) (fun he=>OB he) (fun _=>Bk 3 0 [] h) (fun _ _ _=>h)
theorem Jz {s:af} {c:aZ} (h:s.right):(aQ s c).1.right:=by
 unfold aQ bB;split
 ·rename_i he;exact Jb h he
 ·exact h
theorem FK:∀ (l:List Int) (lo hi:Int),l.Pairwise (fun a c=>a < c)->(∀ x∈l,lo<=x/\x < hi)->lo<=hi->(l.length:Int)<=hi-lo
 | [],lo,hi,_,_,h=>by simp;omega
 | x :: r,lo,hi,hp,hx,hlh=>by
  rw [List.pairwise_cons] at hp;have hx0:=hx x (by simp);have:=FK r (x+1) hi hp.2 (fun y hy=>by have:=hp.1 y hy;have:=hx y (by simp [hy]);omega) (by omega);simp only [List.length_cons];omega
theorem u7 {A:Type} {xs:List A} (f:A->Int) (lo hi:Int) {R:A->A->Prop} (hp:xs.Pairwise R) (hf:∀ a∈xs,∀ b∈xs,R a b->f a < f b) (hx:∀ x∈xs,lo<=f x/\f x < hi) (h:lo<=hi):(xs.length:Int)<=hi-lo:=by
 have h1:(xs.map f).Pairwise (fun a c=>a < c):=by
  rw [List.pairwise_map];exact List.Pairwise.imp_of_mem (fun {p q} hp hq hpq=>hf p hp q hq hpq) hp
 have:=FK _ lo hi h1 (fun x hx'=>by
  obtain ⟨y,hy,rfl⟩:=List.mem_map.1 hx'
  exact hx y hy) h
 rwa [aG] at this
structure af.lens (s:af):Prop where
 ms:s.aj.ms.length<=16
 ns:s.aj.ns.length<=8
 xs:s.aj.xs.length<=6
 ts:s.book.ts.length<=128
 qs:s.book.qs.length<=128
 bs:s.aU.bs.length<=1000
 ps:s.ps.length<=1000
 calls:s.calls.length<=1000
 aX:s.aX.length<=32
 aJ:s.aJ.length<=8
theorem af.right.lens {s:af} (h:s.right):s.lens:=by
 obtain ⟨⟨o1,p1⟩,⟨o2,p2⟩,⟨o3,p3⟩⟩:=eu.1 h.aj;have hl:=iT.1 h.aU;have hg:=gO.1 h.ps;have hc:=nC.1 h.calls;have hs:=(oM (lt:=dH) qc).1 h.aJ;refine ⟨?_,?_,?_,(dG.1 h.book).tl,Bq h.book,?_,?_,?_,h.bl,?_⟩
 ·have:=u7 ak.no 1 17 p1 (fun _ _ _ _ h=>h) (fun x hx=>by have:=tI (o1 x hx);omega) (by decide);omega
 ·have:=u7 aq.no 1 9 p2 (fun _ _ _ _ h=>h) (fun x hx=>by have:=AQ (o2 x hx);omega) (by decide);omega
 ·have:=u7 av.a 1 7 p3 (fun _ _ _ _ h=>h) (fun x hx=>by have:=Cy (o3 x hx);omega) (by decide);omega
 ·have hr:=fun b hb=>qE (qw h.aU b hb)
  have:=u7 (fun b:bp=>b.bH.kind*64+b.bH.who*3+b.bH.cur) 0 500 hl.2.1.2 (fun a ha b hb hab=>by
   have:=hr a ha;have:=hr b hb
   rw [mq] at hab;omega) (fun x hx=>by have:=hr x hx;omega) (by decide)
  omega
 ·have hr:∀ p∈s.ps,0<=p.key/\p.key < 500:=fun p hp=>by
   have:=lU.1 (hg.1 p hp).1;unfold eO.key;omega
  have:=u7 eO.key 0 500 hg.2 (fun _ _ _ _ h=>h) hr (by decide);omega
 ·have hr:=fun b hb=>tZ.1 (hc.1 b hb)
  have:=u7 (fun b:aB=>b.who*3+b.cur) 0 500 hc.2 (fun a ha b hb hab=>by
   have:=hr a ha;have:=hr b hb
   simp only [bM,Bool.or_eq_true,bZ,decide_eq_true_eq,beq_iff_eq] at hab;omega) (fun x hx=>by have:=hr x hx;omega) (by decide)
  omega
 ·have hr:∀ x∈s.aJ,1<=x.client/\x.client<=8:=fun x hx=>by
   have:=hs.1 x hx;simp only [eY,within,bZ,decide_eq_true_eq] at this;omega
  have:=u7 bE.client 1 9 hs.2 (fun a _ b _ hab=>by simpa [dH] using hab) (fun x hx=>by have:=hr x hx;omega) (by decide);omega
structure af.fZ (s:af):Prop where
 right:s.right
 last:s.aU.last<=1099511627776
 fit:∀ x∈s.aJ,x.r.fits
theorem Ml {n:Int} (h:bP n=true):eW n:=by
 rw [cm] at h;exact ⟨by omega,by omega⟩
theorem af.right.cE {s:af} (h:s.right) (hla:s.aU.last<=1099511627776) (hf:∀ x∈s.aJ,x.r.fits):s.cE:=by
 obtain ⟨⟨o1,p1⟩,⟨o2,p2⟩,⟨o3,p3⟩⟩:=eu.1 h.aj;have hb:=dG.1 h.book;have hl:=iT.1 h.aU;have hg:=gO.1 h.ps;have hc:=nC.1 h.calls;have hs:=(oM (lt:=dH) qc).1 h.aJ;have hk:=h.Kx;have n0:=hb.n0;have n1:=hb.n1;refine ⟨⟨by omega,by omega⟩,⟨by omega,by omega⟩,⟨by omega,by omega⟩,fun x hx=>?_,fun x hx=>?_,fun x hx=>?_,⟨by omega,by omega⟩,fun x hx=>?_,fun x hx=>?_,?_,fun x hx=>?_,fun x hx=>Q1 (hg.1 x hx),fun x hx=>?_,fun x hx=>?_,fun x hx=>?_⟩
 ·have:=tI (o1 x hx);exact ⟨⟨by omega,by omega⟩,⟨by omega,by omega⟩,⟨by omega,by omega⟩⟩
 ·have:=o2 x hx;simp only [aq.ok,within,bZ,decide_eq_true_eq] at this;have hsh:=fun j=>B1 (o2 x hx) j
  have h0:=hsh 0;have h1:=hsh 1;have h2:=hsh 2;have h3:=hsh 3;have h4:=hsh 4;have h5:=hsh 5;simp only [aq.sh] at h0 h1 h2 h3 h4 h5;exact ⟨⟨by omega,by omega⟩,⟨by omega,by omega⟩,⟨by omega,by omega⟩,⟨by omega,by omega⟩,⟨by omega,by omega⟩,⟨by omega,by omega⟩,⟨by omega,by omega⟩,⟨by omega,by omega⟩,⟨by omega,by omega⟩,⟨by omega,by omega⟩,⟨by omega,by omega⟩,⟨by omega,by omega⟩⟩
 ·have:=o3 x hx;simp only [av.ok,within,bZ,decide_eq_true_eq] at this;exact ⟨⟨by omega,by omega⟩,⟨by omega,by omega⟩,⟨by omega,by omega⟩,⟨by omega,by omega⟩⟩
 ·have:=hb.tok x hx;simp only [eL,aI.okB,oA,within,bZ,Bool.not_eq_true',decide_eq_false_iff_not,decide_eq_true_eq] at this;exact ⟨⟨by omega,by omega⟩,⟨by omega,by omega⟩,⟨by omega,by omega⟩,⟨by omega,by omega⟩,⟨by omega,by omega⟩,⟨by omega,by omega⟩⟩
 ·have:=jE.1 (hb.ok x hx);exact ⟨⟨by omega,by omega⟩,⟨by omega,by omega⟩,⟨by omega,by omega⟩,Ml this.2.2.2.1⟩
 ·exact ⟨by omega,by omega⟩
 ·have h1:=qE (qw h.aU x hx);have h2:=hl.2.1.1 x hx;simp only [jZ,bZ] at h2;simp only [bp.bH] at h1;exact ⟨⟨by omega,by omega⟩,⟨by omega,by omega⟩,⟨by omega,by omega⟩,Ml h2.2.1⟩
 ·have:=tZ.1 (hc.1 x hx);exact ⟨⟨by omega,by omega⟩,⟨by omega,by omega⟩,⟨by omega,by omega⟩,⟨by omega,by omega⟩⟩
 ·have:=h.aX x hx;simp only [kf,oA,within,bZ,decide_eq_true_eq] at this;exact ⟨⟨by omega,by omega⟩,⟨by omega,by omega⟩,⟨by omega,by omega⟩,⟨by omega,by omega⟩,⟨by omega,by omega⟩⟩
 ·have:=hs.1 x hx;simp only [eY,within,bZ,decide_eq_true_eq] at this;exact ⟨⟨by omega,by omega⟩,⟨by omega,by omega⟩,trivial,trivial,trivial,trivial,trivial,hf x hx⟩
theorem af.fZ.good {s:af} (h:s.fZ):s.good:=by
 have l:=h.right.lens;have h1:=l.ms;have h2:=l.ns;have h3:=l.xs;have h4:=l.ts;have h5:=l.qs;have h6:=l.bs;have h7:=l.ps;have h8:=l.calls;have h9:=l.aX;have h10:=l.aJ;exact ⟨⟨⟨by omega,by omega,by omega⟩,⟨by omega,by omega⟩,by omega,by omega,by omega,by omega,by omega,h.fit⟩,h.right.cE h.last h.fit,by omega,by omega,by omega,by omega,by omega⟩
def bq.lo (l:bq):Prop:=l.last<=1099511627776
theorem JT {l:bq} {id:Int} {g:List aW} (h:eI l id g=0):(gF l id g).lo:=by
 unfold gF;rw [if_pos h];exact (JP h).2.1.2
theorem xZ {s:af} (g:List aW) (h:s.aU.lo):(kF s g).aU.lo:=by
 unfold kF;split
 ·rename_i he;exact JT he
 ·exact h
theorem EY {l:bq} {g:List aW} {e:Int} (h:l.lo) (h0:(fu l g e).2=0):(fu l g e).1.lo:=by
 unfold fu at h0 |-;split
 ·rename_i hc;rw [if_pos hc] at h0;exact JT h0
 ·exact h
theorem Na {s:af} {w:Int}:∀ (m i:Nat) (l:bq) (p:List aN),l.lo->(ni s w m i l p).2.2=0->(ni s w m i l p).1.lo
 | 0,_,_,_,h,_=>h
 | m+1,i,l,p,h,he=>by
  simp only [ni] at he |-;split
  ·rename_i h0;rw [if_pos h0] at he;exact Na m _ _ _ (EY h h0) he
  ·rename_i h0;rw [if_neg h0] at he;exact absurd he h0
theorem M6 {s:af} (h:s.aU.lo) (c:Int):(ux s c).1.aU.lo:=by
 unfold ux;split
 ·exact xZ _ h
 ·exact h
theorem M4:∀ (m c:Nat) {s:af} (ds:List aN),s.aU.lo->(j6 m c s ds).1.aU.lo
 | 0,_,_,_,h=>h
 | m+1,c,s,ds,h=>by
  simp only [j6];split
  ·exact M4 m _ _ (M6 h _)
  ·exact M6 h _
theorem Ve {s:af} (h:s.aU.lo) (c:aZ):(nV s c).1.aU.lo:=by
 unfold nV;split
 case isFalse=>exact h
 split
 case isFalse=>exact h
 split
 ·exact xZ _ h
 split
 ·split
  ·exact xZ (s:=s) _ h
  ·exact xZ _ h
 ·exact xZ _ h
theorem Oz {s:af} (h:s.aU.lo) (c:aZ) (n:Int):(jY s c n).1.aU.lo:=by
 unfold jY;split
 case isFalse=>exact h
 split
 case isFalse=>exact h
 split
 case isFalse=>exact h
 split
 case isFalse=>exact h
 split
 ·exact h
 split
 ·exact h
 ·exact h
theorem PO {s:af} (h:s.aU.lo) (c:aZ):(iK s c).1.aU.lo:=by
 unfold iK;split
 ·split<;>exact h
 split
 ·exact h
 split
 ·exact h
 split
 ·split<;>exact h
 ·exact h
theorem Vo {s:af} (h:s.aU.lo) (c:aZ):(p7 s c).1.aU.lo:=by
 unfold p7;split
 case isFalse=>exact h
 split
 case isFalse=>exact h
 split
 ·exact h
 split
 case isFalse=>exact h
 split<;>exact h
theorem NT {s:af} (h:s.aU.lo) (he:gP s=0):(jB s).aU.lo:=by
 unfold jB;rw [if_pos he];unfold gP at he;split at he
 case isFalse=>cases he
 split at he
 case isFalse=>cases he
 split at he
 case isFalse hne=>exact absurd he hne
 split at he
 case isFalse hne=>exact absurd he hne
 exact EY (l:=s.aU) h he
theorem N1 {s:af} (h:s.aU.lo) (he:iB s=0):(iY s).aU.lo:=by
 unfold iY;rw [if_pos he];exact h
theorem SC {s:af} (h:s.aU.lo) (he:rS s=0):(rT s).aU.lo:=by
 unfold rT;rw [if_pos he];exact h
theorem Si {s:af} {n:Int} (h:s.aU.lo) (he:oc s n=0):(gq s n).aU.lo:=by
 unfold gq;rw [if_pos he];exact h
theorem W5 {s:af} {w:Int} (h:s.aU.lo) (he:uv s w=0):(lT s w).aU.lo:=by
 unfold lT;rw [if_pos he];exact Na 3 0 s.aU [] h (GM he).2.2.2
theorem Rn {s:af} {c:aZ} (h:s.aU.lo) (he:(fj s c).2.1=0):(fj s c).1.aU.lo:=by
 revert he
 exact oS s c (P:=fun m=>m.2.1=0->m.1.aU.lo) (fun _=>h) (fun _=>h) (fun _=>h) (fun _=>Ve h c) (fun _=>Oz h c _) (fun _=>xZ _ h) (fun _=>PO h c)
  (fun he=>NT h he) (fun he=>N1 h he) (fun he=>SC h he) (fun he=>Si h he) (fun _=>Vo h c) (fun he=>W5 h he) (fun _=>M4 3 0 [] h) (fun _ _ _=>h)
theorem Kc {s:af} {w:Int}:∀ (m c:Nat) (x:List aB × List aN),(nN s w m c x).1.2.length<=x.2.length+m
 | 0,_,_=>Nat.le_refl _
 | m+1,c,x=>by
  simp only [nN];split
  ·refine Nat.le_trans (Kc m _ _) ?_;simp only [List.length_append];have:(mI w c (Po s w c)).length<=1:=by unfold mI;split<;>simp
   omega
  ·dsimp only;omega
theorem En {s:af}:∀ (ws:List Int) (x:List aB × List aN),(qP s ws x).1.2.length<=x.2.length+3*ws.length
 | [],_=>Nat.le_refl _
 | w :: r,x=>by
  have h1:=Kc (s:=s) (w:=w) 3 0 x;simp only [qP,List.length_cons];split
  ·have h2:=En (s:=s) r (nN s w 3 0 x).1;omega
  ·omega
theorem Mu {s:af} {w:Int}:∀ (m i:Nat) (l:bq) (p:List aN),(ni s w m i l p).2.1.length<=p.length+m
 | 0,_,_,_=>Nat.le_refl _
 | m+1,i,l,p=>by
  simp only [ni];split
  ·refine Nat.le_trans (Mu m _ _ _) ?_;simp only [List.length_append];have:(mI w i (iu s w i).2.1).length<=1:=by unfold mI;split<;>simp
   omega
  ·dsimp only;omega
theorem OP (s:af) (c:Int):(ux s c).1.aj=s.aj:=by
 unfold ux kF;split
 ·split<;>rfl
 ·rfl
theorem MM:∀ (m c:Nat) (s:af) (ds:List aN),(j6 m c s ds).2.1.length<=ds.length+m*s.aj.ms.length
 | 0,_,_,_=>by simp [j6]
 | m+1,c,s,ds=>by
  simp only [j6];split
  ·refine Nat.le_trans (MM m _ _ _) ?_;rw [OP];have:=zf s.aU s.aj c;simp only [List.length_append,Nat.succ_mul];omega
  ·simp
theorem IT {s:af} (h:s.lens):(oO s).length<=1000:=by
 have hq:=h.qs;unfold oO iy;split
 ·have:=(Gc (oX s.aj s.book)).2;have:(oX s.aj s.book).length<=s.book.qs.length:=by unfold oX;split<;>simp
  omega
 ·simp
theorem JR {s:af} (h:s.lens):(mY s).length<=1000:=by
 have hm:=h.ms;unfold mY Ou;split
 ·have h1:=En (s:=s) (mK s.aj [1]) (s.calls,[]);have h2:(mK s.aj [1]).length<=s.aj.ms.length:=bY _ _ _;simp only [List.length_nil] at h1;omega
 ·simp
theorem Nt {s:af} (n:Int) (h:s.lens):(wz s n).length<=1000:=by
 have hc:=h.calls;unfold wz;split
 ·rw [aG];have:=FC (s.now+n) s.calls;omega
 ·simp
theorem PZ {s:af} (w:Int):(FN s w).length<=1000:=by
 unfold FN;split
 ·have:=Mu (s:=s) (w:=w) 3 0 s.aU [];simp only [List.length_nil] at this;omega
 ·simp
theorem Pr {s:af} (w:Int):(FU s w).length<=1000:=by
 unfold FU;split
 ·rw [oG];omega
 ·simp
theorem Ek {s:af} (h:s.lens):(j6 3 0 s []).2.1.length<=1000:=by
 have hm:=h.ms;have:=MM 3 0 s [];simp only [List.length_nil] at this;omega
theorem NU {s:af} {c:aZ} (h:s.lens):(fj s c).2.2.2.2.1.length<=1000/\(fj s c).2.2.2.2.2.length<=1000:=by
 have z:([]:List aN).length<=1000/\([]:List dM).length<=1000:=⟨Nat.zero_le _,Nat.zero_le _⟩
 exact oS s c (P:=fun m=>m.2.2.2.2.1.length<=1000/\m.2.2.2.2.2.length<=1000) z z z z z z z ⟨IT h,z.2⟩ ⟨JR h,z.2⟩ z ⟨Nt _ h,z.2⟩ z ⟨PZ _,Pr _⟩ ⟨Ek h,z.2⟩ (fun _ _=>z)
theorem CR {s:af} {c:aZ} (h:s.lens):(aQ s c).2.fits:=by
 have hl:=NU (c:=c) h;unfold aQ bB;split
 ·simp only [bk.fits];omega
 ·simp [bk.fits,bk.err]
theorem KG {s:af} {c:aZ} (h:s.fZ):(aQ s c).1.right/\(aQ s c).1.aU.lo:=by
 refine ⟨Jz h.right,?_⟩;unfold aQ bB;split
 ·rename_i he;exact Rn h.last he
 ·exact h.last
def nI (s:af) (c:aZ) (r:bk) (i:Nat):List bE:=
 if (i:Int)+1=c.client then [⟨(i:Int)+1,c.seq,r⟩] else if 0<=gr ((i:Int)+1) s.aJ 0 then [kR s (gr ((i:Int)+1) s.aJ 0)] else []
def uy (s:af) (c:aZ):af × bk:=if (lA s c).2 then (s,(lA s c).1) else ({ (aQ s c).1 with aJ:=oq (nI s c (aQ s c).2) 8 },(aQ s c).2)
theorem AX (n:Int):∀ (l:List bE) (k:Int),0<=k->0<=gr n l k->∃ (j:Nat) (h:j < l.length),gr n l k=k+j/\l[j].client=n
 | [],k,_,h=>by simp [gr] at h
 | x :: r,k,hk,h=>by
  simp only [gr] at h |-;split
  ·rename_i hx;exact ⟨0,by simp,by simp,by simpa using hx⟩
  ·rename_i hx;rw [if_neg hx] at h;obtain ⟨j,h1,h2,h3⟩:=AX n r (k+1) (by omega) h;exact ⟨j+1,by simp;omega,by rw [h2];omega,by simpa using h3⟩
theorem vA {s:af} {n:Int} (h:0<=gr n s.aJ 0):kR s (gr n s.aJ 0)∈s.aJ/\(kR s (gr n s.aJ 0)).client=n:=by
 obtain ⟨j,hj,e,hc⟩:=AX n s.aJ 0 (by omega) h;unfold kR;rw [e,Int.zero_add,Int.toNat_natCast,List.getD_eq_getElem?_getD,List.getElem?_eq_getElem hj];exact ⟨List.getElem_mem hj,hc⟩
theorem MZ {x:bE}:eY x=true ↔ (1<=x.client/\x.client<=8)/\1<=x.seq/\x.seq<=1099511627776:=by
 simp only [eY,within,bZ,decide_eq_true_eq]
theorem Kv {c:aZ} (h:wZ c=0):(1<=c.kind/\c.kind<=22)/\1<=c.client/\c.client<=8:=by
 unfold wZ at h;split at h
 case isFalse=>cases h
 rename_i h1;split at h
 case isFalse=>cases h
 split at h
 case isFalse=>cases h
 split at h
 case isFalse=>cases h
 rename_i h2;simp only [within,bZ,decide_eq_true_eq] at h1 h2;exact ⟨h1,h2⟩
theorem B0 {c:aZ} {last:Int} (h:(xW c last).2=false) (hl:0<=last/\last<=1099511627776):c.seq=last+1/\c.seq<=1099511627776:=by
 unfold xW at h;split at h
 case isFalse=>cases h
 rename_i h1;split at h
 ·cases h
 rename_i h2;rw [bz (by omega) (by omega)] at h1;omega
theorem Ji {s:af} {c:aZ} (hs:s.right) (h:(lA s c).2=false):wZ c=0/\1<=c.seq/\c.seq<=1099511627776:=by
 have hse:=(oM (lt:=dH) qc).1 hs.aJ;unfold lA at h;split at h
 case isFalse=>cases h
 rename_i h1;split at h
 ·rename_i h2;have hm:=MZ.1 (hse.1 _ (vA h2).1);split at h
  ·cases h
  split at h
  ·cases h
  have:=B0 h (by omega);exact ⟨h1,by omega,this.2⟩
 ·have:=B0 h (by omega);exact ⟨h1,by omega,this.2⟩
theorem Jg (s:af) (c:aZ) (hs:s.fZ):∀ i,i < 8->∀ x∈nI s c (aQ s c).2 i,x.client=(i:Int)+1/\(x∈s.aJ\/x=⟨c.client,c.seq,(aQ s c).2⟩):=by
 intro i hi x hx;unfold nI at hx;split at hx
 ·rename_i h;obtain rfl:=List.mem_singleton.1 hx;exact ⟨rfl,.inr (by rw [h])⟩
 ·split at hx
  ·rename_i h;obtain rfl:=List.mem_singleton.1 hx;exact ⟨(vA h).2,.inl (vA h).1⟩
  ·cases hx
theorem Qk {s:af} {c:aZ} (h:s.fZ):(uy s c).1.fZ:=by
 unfold uy;split
 ·exact h
 rename_i hk;obtain ⟨f,k1,k2⟩:=Ji h.right (by simpa using hk);obtain ⟨d1,d2⟩:=KG (c:=c) h;have hS:=Jg s c h;have hse:=(oM (lt:=dH) qc).1 h.right.aJ;have hfit:=CR (c:=c) h.right.lens;have hcl:=Kv f;refine ⟨⟨d1.Kx,d1.aj,d1.book,d1.aU,d1.ps,d1.calls,d1.known,d1.bl,d1.aX,(oM (lt:=dH) qc).2 ⟨fun x hx=>?_,?_⟩⟩,d2,fun x hx=>?_⟩
 ·obtain ⟨i,hi,hx⟩:=jf.1 hx;rcases (hS i hi x hx).2 with hx | rfl
  ·exact hse.1 x hx
  ·rw [MZ];dsimp only;omega
 ·refine qX (fun i hi=>tE ?_) fun i j hij hj x hx y hy=>?_
  ·unfold nI;split;simp;split<;>simp
  ·have h1:=(hS i (by omega) x hx).1;have h2:=(hS j hj y hy).1;simp only [dH,decide_eq_true_eq];omega
 ·obtain ⟨i,hi,hx⟩:=jf.1 hx;rcases (hS i hi x hx).2 with hx | rfl
  ·exact h.fit x hx
  ·exact hfit
theorem Oq:af.zero.fZ:=⟨gA.1 rfl,by decide,fun x hx=>by cases hx⟩
theorem E6 {l:bq} (h:l.okB=true) (c:Int):az (fN c l.bs)=0:=by
 have hl:=iT.1 h
 by_cases hc:0<=c/\c<=2
 ·have h0:=(xm.1 hl.2.2.1).2;have h1:=(xm.1 hl.2.2.2.1).2;have h2:=(xm.1 hl.2.2.2.2).2;rcases (by omega:c=0\/c=1\/c=2) with rfl | rfl | rfl
  ·exact h0
  ·exact h1
  ·exact h2
 ·have:fN c l.bs=[]:=by
   unfold fN;rw [List.map_eq_nil_iff,List.filter_eq_nil_iff];intro b hb;have:=qE (qw h b hb);simp only [bp.bH] at this;simp only [beq_iff_eq];omega
  rw [this];rfl
theorem O8 (c:Int) (ks:List Int) (b:bp) (r:List bp):az (nP c ks (b :: r))=(if (b.cur==c&&J6 ks b.kind)=true then b.sum else 0)+az (nP c ks r):=by
 simp only [nP,List.filter_cons];split<;>simp [az]
theorem Ni (c:Int) (bs:List bp):az (nP c [] bs)=az (fN c bs):=by
 induction bs with
 | nil=>rfl
 | cons b r ih =>
  rw [O8,uf,ih,wQ];congr 1;simp only [J6,List.length_nil,decide_true,Bool.true_or,Bool.and_true,beq_iff_eq]
def nu (c:Int):aH:=⟨5,0,c⟩
theorem tN {c:Int} (h:0<=c/\c<=2):nu c∈gE:=by
 rw [xu];unfold nu aH.right;rw [if_neg (by dsimp only;omega)];rfl
theorem Rj (c:Int):∀ {bs:List bp},bs.Pairwise (fun x y=>x.bH.less y.bH=true)->az (oz c bs)=gw (nu c) bs
 | [],_=>rfl
 | b :: r,h=>by
  rw [List.pairwise_cons] at h;have ih:=Rj c h.2;simp only [oz,List.filter_cons,gw] at ih |-;have e:isVar c b=SN (nu c) b:=rfl;rw [e]
  by_cases hb:SN (nu c) b=true
  ·rw [if_pos hb,if_pos hb,List.map_cons,az,ih,wA]
   ·omega
   ·intro x hx hxa;have:=h.1 x hx;rw [tM.1 hb,hxa] at this;exact qB this
  ·rw [if_neg hb,if_neg hb,ih]
theorem KK {a x:aH} {n:Int} (h:x≠a) (r:List bp):gw a (qg x n++r)=gw a r:=by
 unfold qg;split
 ·rfl
 ·simp only [List.cons_append,List.nil_append,gw];rw [if_neg];intro hb;exact h (tM.1 hb)
theorem Mh {a:aH} (S:aH->Int):∀ {L:List aH},L.Pairwise (fun x y=>x.less y=true)->a∈L->gw a (L.flatMap fun x=>qg x (S x))=S a
 | [],_,h=>by cases h
 | x :: r,hp,h=>by
  rw [List.pairwise_cons] at hp;rw [List.flatMap_cons]
  by_cases hx:x=a
  ·subst hx;unfold qg;split
   ·rename_i hz;have hz:S x=0:=by simpa using hz
    rw [hz,List.nil_append,wA];intro b hb hba;obtain ⟨y,hy,hb⟩:=List.mem_flatMap.1 hb;split at hb
    ·cases hb
    ·obtain rfl:=List.mem_singleton.1 hb;have:y=x:=hba;have hl:=hp.1 y hy;rw [this] at hl;exact qB hl
   ·simp only [List.cons_append,List.nil_append,gw];rw [if_pos (show SN x ⟨x.kind,x.who,x.cur,S x⟩=true from tM.2 rfl)]
  ·rw [KK hx];rcases List.mem_cons.1 h with h | h
   ·exact absurd h.symm hx
   ·exact Mh S hp.2 h
theorem Mn {l:bq} {id:Int} {g:List aW} {a:aH} (h:eI l id g=0) (ha:a∈gE):gw a (gF l id g).bs=gw a l.bs+az (dL a g):=by
 unfold gF;rw [if_pos h];exact Mh (mF l g) xe ha
theorem wF (a:aH) (g k:List aW):az (dL a (g++k))=az (dL a g)+az (dL a k):=by
 simp only [dL,pick,List.flatMap_append,cY]
theorem qj {a:aH}:∀ {g:List aW},(∀ x∈g,x.bH≠a)->az (dL a g)=0
 | [],_=>rfl
 | x :: r,h=>by
  rw [lV,if_neg (h x (by simp)),qj fun y hy=>h y (by simp [hy])];rfl
theorem yy {a:aH} {g:List aW} (ha:a∈gE) (h:mP g=0):az (dL a (iF g))=az (dL a g):=by
 unfold iF;rw [if_pos h];unfold vS
 have key:∀ {L:List aH},L.Pairwise (fun x y=>x.less y=true)->a∈L->az (dL a (L.flatMap fun x=>C0 x (az (dL x g))))=az (dL a g):=by
  intro L
  induction L with
  | nil=>intro _ h;cases h
  | cons x r ih =>
   intro hp hm;rw [List.pairwise_cons] at hp;rw [List.flatMap_cons,wF]
   have hN:∀ y:aH,∀ z∈C0 y (az (dL y g)),z.bH=y:=fun y z hz=>by
    unfold C0 at hz;split at hz
    ·cases hz
    ·obtain rfl:=List.mem_singleton.1 hz;rfl
   by_cases hx:x=a
   ·subst hx
    rw [qj (g:=r.flatMap _) (fun z hz hza=>by
     obtain ⟨y,hy,hz⟩:=List.mem_flatMap.1 hz;have:=hN y z hz;have hl:=hp.1 y hy;rw [<- this,hza] at hl
     exact qB hl)]
    unfold C0;split
    ·rename_i hz;have hz:az (dL x g)=0:=by simpa using hz
     rw [hz];rfl
    ·rw [lV,if_pos (show aW.bH ⟨x.kind,x.who,x.cur,az (dL x g)⟩=x from rfl)];simp [dL,pick,az]
   ·rw [qj (g:=C0 x _) (fun z hz hza=>hx (by rw [<- hN x z hz];exact hza))];rcases List.mem_cons.1 hm with h | h
    ·exact absurd h.symm hx
    ·rw [ih hp.2 h];omega
 exact key xe ha
theorem NA {a x y:aH} {n:Int} (hn:bP n=true):az (dL a (bN x y n))=(if x=a then -n else 0)+(if y=a then n else 0):=by
 unfold bN;rw [hn,if_pos rfl,lV,lV]
 show (if x=a then -n else 0)+((if y=a then n else 0)+0)=_
 omega
theorem LW {x y:aH} {n:Int} {k:aW} (h:k∈bN x y n):k.bH=x\/k.bH=y:=by
 unfold bN at h;simp only [List.mem_cons,List.not_mem_nil,or_false] at h;rcases h with rfl | rfl
 ·exact .inl rfl
 ·exact .inr rfl
theorem Pu {a x y:aH} {n:Int} (h1:x≠a) (h2:y≠a):az (dL a (bN x y n))=0:=
 qj fun k hk=>by rcases LW hk with e | e<;>rw [e]<;>assumption
theorem Gx {A:Type} (l m:List A) (F:A->Int):tot (l++m) F=tot l F+tot m F:=by
 simp only [tot,List.map_append,cY]
theorem tH {A B:Type} (f:A->List B) (F:B->Int) (L:List A):tot (L.flatMap f) F=tot L (fun a=>tot (f a) F):=by
 induction L with
 | nil=>rfl
 | cons x r ih=>rw [List.flatMap_cons,Gx,ih];rfl
theorem Td {A:Type} (L:List A) (F:A->Int) (m:Int):tot L (fun a=>m*F a)=m*tot L F:=by
 induction L with
 | nil=>simp [tot,az]
 | cons x r ih=>rw [eR,eR,ih,Int.mul_add]
def wc (m:Int->Int) (p:aA):Int:=m p.inst*p.cost
theorem Xr (m:Int->Int) (b:aF) (g:List aA) (w n:Int):tot (DS b g w n) (wc m)=m n*Q6 b g w n:=by
 unfold DS;split
 ·rename_i h;simp only [bZ,beq_iff_eq] at h;rw [h.2];simp [tot,az]
 ·simp [tot,az,wc]
theorem ae8 {n v:Int} {m:Int->Int} (h:1<=n/\n<=8):tot (List.range 8) (fun j=>if n=(j:Int)+1 then m ((j:Int)+1)*v else 0)=m n*v:=by
 rw [vW (CT 8) (x:=(n-1).toNat) (List.mem_range.2 (by omega))]
 ·rw [if_pos (by omega),show (((n-1).toNat:Nat):Int)+1=n by omega]
 ·intro a ha;rw [if_neg (by omega)]
theorem QV {m:Int->Int} {p:aA} (h1:1<=p.who/\p.who<=16) (h2:1<=p.inst/\p.inst<=8):tot (List.range 16) (fun k=>tot (List.range 8) (fun j=>if p.who=(k:Int)+1 then (if p.inst=(j:Int)+1 then m ((j:Int)+1)*p.cost else 0) else 0))=wc m p:=by
 have e:∀ k∈List.range 16,tot (List.range 8) (fun j=>if p.who=(k:Int)+1 then (if p.inst=(j:Int)+1 then m ((j:Int)+1)*p.cost else 0) else 0)=if p.who=(k:Int)+1 then wc m p else 0:=fun k _=>by
  by_cases hw:p.who=(k:Int)+1
  ·simp only [if_pos hw];exact ae8 h2
  ·simp only [if_neg hw];exact gp fun _ _=>rfl
 rw [cq e,Qz h1]
theorem Uu (m:Int->Int):∀ {qs:List aA},(∀ p∈qs,(1<=p.who/\p.who<=16)/\1<=p.inst/\p.inst<=8)->qs.Pairwise (fun x y=>fO x y=true)->tot (List.range 16) (fun k=>tot (List.range 8) (fun j=>m ((j:Int)+1)*(posOf ((k:Int)+1) ((j:Int)+1) qs).cost))=tot qs (wc m)
 | [],_,_=>by
  refine gp fun a _=>gp fun b _=>?_
  simp [posOf]
 | p :: r,h1,h2=>by
  rw [List.pairwise_cons] at h2;rw [eR,<- Uu m (fun x hx=>h1 x (by simp [hx])) h2.2,<- QV (m:=m) (h1 p (by simp)).1 (h1 p (by simp)).2,<- gT];refine cq fun k _=>?_
  rw [<- gT];refine cq fun j _=>?_
  simp only [posOf]
  by_cases hw:p.who=(k:Int)+1
  ·rw [if_pos hw]
   by_cases hn:p.inst=(j:Int)+1
   ·rw [if_pos hn,if_pos (eG.2 ⟨hw,hn⟩)];rw [lB (qs:=r)]
    ·simp
    ·intro x hx hk;have:=h2.1 x hx;simp only [fO,Ca,Bool.or_eq_true,bZ,decide_eq_true_eq,beq_iff_eq] at this;omega
   ·rw [if_neg hn,if_neg (fun h=>hn (eG.1 h).2)];omega
  ·rw [if_neg hw,if_neg (fun h=>hw (eG.1 h).1)];omega
theorem abo (m:Int->Int):∀ {g:List aA},(∀ p∈g,(1<=p.who/\p.who<=16)/\1<=p.inst/\p.inst<=8)->tot (List.range 16) (fun k=>tot (List.range 8) (fun j=>m ((j:Int)+1)*az (pick (dO ((k:Int)+1) ((j:Int)+1)) aA.cost g)))=tot g (wc m)
 | [],_=>by
  refine gp fun a _=>gp fun b _=>?_
  simp [pick,az]
 | p :: r,h1=>by
  rw [eR,<- abo m (fun x hx=>h1 x (by simp [hx])),<- QV (m:=m) (h1 p (by simp)).1 (h1 p (by simp)).2,<- gT];refine cq fun k _=>?_
  rw [<- gT];refine cq fun j _=>?_
  rw [nB,Int.mul_add];congr 1
  by_cases hw:p.who=(k:Int)+1
  ·rw [if_pos hw]
   by_cases hn:p.inst=(j:Int)+1
   ·rw [if_pos (eG.2 ⟨hw,hn⟩),if_pos hn]
   ·rw [if_neg (fun h=>hn (eG.1 h).2),if_neg hn];simp
  ·rw [if_neg hw,if_neg (fun h=>hw (eG.1 h).1)];simp
theorem Lf (m:Int->Int) {b:aF} {g:List aA} (h:jh b g=0):tot (vO b g 16) (wc m)=tot b.qs (wc m)+tot g (wc m):=by
 obtain ⟨h1,_,_⟩:=tK h;have hb:=dG.1 (ke h).1;unfold vO;rw [tH,<- Uu m (fun p hp=>⟨(jE.1 (hb.ok p hp)).1,(jE.1 (hb.ok p hp)).2.1⟩) hb.pw,<- abo m (fun p hp=>M8 (List.all_eq_true.1 h1 p hp)),<- gT];refine cq fun k _=>?_
 unfold Ky;rw [tH,<- gT];refine cq fun j _=>?_
 rw [Xr,<- Int.mul_add];rfl
theorem Nd (m:Int->Int) (t:aI) (b:Bool):tot (fS t b) (wc m)=0:=by
 unfold fS;split
 ·simp only [tot,List.map_cons,List.map_nil,az,wc,Int.neg_mul,Int.mul_neg];omega
 ·rfl
theorem Sv (m:Int->Int) (w n:Int) (long:Bool) (f:List dP):tot (f.flatMap (ur w n long)) (wc m)=0:=by
 rw [tH];refine gp fun x _=>?_
 simp only [ur,tot,List.map_cons,List.map_nil,az,wc,Int.mul_neg];omega
theorem Bu (m:Int->Int) {b:aF} {w n:Int} {long:Bool} {f:List dP} (h:(mu b w n long f).2=0):tot (mu b w n long f).1.qs (wc m)=tot b.qs (wc m):=by
 unfold mu at h |-;split
 case isFalse=>rfl
 rename_i he;rw [if_pos he] at h;dsimp only at h |-;rw [(ke h).2]
 show tot (vO b (kU w n long f) 16) (wc m)=_
 rw [Lf m h,show kU w n long f=f.flatMap (ur w n long) from by unfold kU;rw [if_pos he],Sv];omega
theorem QE (m:Int->Int) {b:aF} {w n p rest:Int} {long:Bool} (h:(qt b w n p long rest).2=0):tot (qt b w n p long rest).1.qs (wc m)=tot b.qs (wc m):=by
 unfold qt at h |-;split
 case isFalse=>rfl
 rename_i he;rw [if_pos he] at h;exact Bu m h
theorem K0 (m:Int->Int) {s:af} {b:aF} {w n:Int} (h:(gJ s w b n).2=0):tot (gJ s w b n).1.qs (wc m)=tot b.qs (wc m):=by
 unfold gJ at h |-;split
 ·rfl
 rename_i hq;rw [if_neg hq] at h;generalize (posOf w n b.qs).aV=q at h |-;unfold nO at h |-;split
 case isFalse=>rfl
 rename_i hp;rw [if_pos hp] at h;split
 case isFalse=>rfl
 rename_i hf;rw [if_pos hf] at h;split
 ·rename_i hc;rw [if_pos hc] at h;rw [QE m h,Bu m hc.1]
 ·rename_i hc;rw [if_neg hc] at h;exact Bu m h
theorem MH (m:Int->Int) {s:af} {w:Int}:∀ (k i:Nat) {b:aF},(mo s w k i b).2=0->tot (mo s w k i b).1.qs (wc m)=tot b.qs (wc m)
 | 0,_,_,_=>rfl
 | k+1,i,b,h=>by
  simp only [mo] at h |-;split
  ·rename_i h0;rw [if_pos h0] at h;rw [MH m k (i+1) h,K0 m h0]
  ·rename_i h0;rw [if_neg h0] at h;exact absurd h h0
def mR (r:au) (c:Int) (n:Int):Int:=if (bf r n&&(aT r n).cur==c)=true then (aT r n).mult else 0
theorem RQ (r:au) (c:Int):WU r c=wc (mR r c):=by
 funext p
 unfold WU wc mR;split<;>simp
def cy (s:af):Prop:=∀ c:Int,0<=c/\c<=2->gw (nu c) s.aU.bs+tot s.book.qs (wc (mR s.aj c))=0
theorem Py {r r':au} (e:r.ext r') {n:Int} (hi:bf r n=true) (c:Int):mR r' c n=mR r c n:=by
 unfold mR;rw [hi,e.inst n hi,(e.same n hi).1,(e.same n hi).2]
theorem Xo {r r':au} (e:r.ext r') {qs:List aA} (hq:∀ p∈qs,bf r p.inst=true) (c:Int):tot qs (wc (mR r' c))=tot qs (wc (mR r c)):=
 cq fun p hp=>by unfold wc;rw [Py e (hq p hp)]
theorem Ut {r r':au} (h:r'.ns=r.ns) (c:Int):mR r' c=mR r c:=by
 funext n
 unfold mR bf aT;rw [h]
theorem ry {s:af} (h:s.right) (hp:cy s) {r':au} (e:s.aj.ext r'):cy { s with aj:=r' }:=fun c hc=>by
 dsimp only;rw [Xo e (fun p hp=>(h.known.qs p hp).2)];exact hp c hc
def nX (g:List aW):Prop:=∀ c:Int,0<=c/\c<=2->az (dL (nu c) g)=0
theorem H9 {g:List aW} (h:∀ x∈g,x.kind≠5):nX g:=fun c _=>qj fun x hx e=>h x hx (by
 have:=congrArg aH.kind e
 exact this)
theorem Bg {g:List aW} (h:nX g):nX (iF g):=fun c hc=>by
 by_cases he:mP g=0
 ·rw [yy (tN hc) he];exact h c hc
 ·unfold iF;rw [if_neg he];rfl
theorem OH {g k:List aW} (h1:nX g) (h2:nX k):nX (g++k):=fun c hc=>by
 rw [wF,h1 c hc,h2 c hc];rfl
theorem Lc {x y:aH} {n:Int} (h1:x.kind≠5) (h2:y.kind≠5):nX (bN x y n):=fun c _ =>
 Pu (fun e=>h1 (congrArg aH.kind e)) (fun e=>h2 (congrArg aH.kind e))
theorem oo {k1 w1 c1 k2 w2 c2 n:Int} (h1:k1≠5) (h2:k2≠5):nX (bN ⟨k1,w1,c1⟩ ⟨k2,w2,c2⟩ n):=Lc h1 h2
theorem nx {s:af} (hp:cy s) {g:List aW} (hg:nX g):cy (kF s g):=by
 unfold kF;split
 ·rename_i he;intro c hc;dsimp only;rw [Mn he (tN hc),hg c hc,Int.add_zero];exact hp c hc
 ·exact hp
theorem OS {s:af} (hp:cy s) (c:aZ):cy (nV s c).1:=by
 unfold nV;split
 case isFalse=>exact hp
 split
 case isFalse=>exact hp
 split
 ·exact nx hp (oo (by decide) (by decide))
 split
 ·split
  ·exact nx (s:=s) hp (oo (by decide) (by decide))
  ·exact nx hp (oo (by decide) (by decide))
 ·exact nx hp (oo (by decide) (by decide))
theorem Gq {s:af} (hp:cy s) (c:aZ) (n:Int):cy (jY s c n).1:=by
 unfold jY;split
 case isFalse=>exact hp
 split
 case isFalse=>exact hp
 split
 case isFalse=>exact hp
 split
 case isFalse=>exact hp
 split
 ·exact hp
 split<;>exact hp
theorem N5 (l:bq) (c:Int) (m:ak):nX (iM l c m):=by
 unfold iM;split
 ·exact oo (by decide) (by decide)
 ·intro _ _;rfl
theorem LG (l:bq) (r:au) (c:Int):nX (fk l r c):=by
 unfold fk;split
 ·refine Bg ?_
  have:∀ ms:List ak,nX (ms.flatMap (iM l c)):=fun ms=>by
   induction ms with
   | nil=>intro _ _;rfl
   | cons m t ih=>rw [List.flatMap_cons];exact OH (N5 l c m) ih
  exact this _
 ·intro _ _;rfl
theorem AW {s:af} (hp:cy s) (c:Int):cy (ux s c).1:=by
 unfold ux;split
 ·exact nx hp (LG _ _ _)
 ·exact hp
theorem Cp:∀ (m c:Nat) {s:af} (ds:List aN),cy s->cy (j6 m c s ds).1
 | 0,_,_,_,h=>h
 | m+1,c,s,ds,h=>by
  simp only [j6];split
  ·exact Cp m _ _ (AW h _)
  ·exact AW h _
theorem HR (m:Int->Int) {b:aF} {t:aI} (he:fJ b t=0):tot (gL b t).qs (wc m)=tot b.qs (wc m):=by
 unfold gL;rw [if_pos he];dsimp only;rw [Lf m (EF he).2.2.2.2,Nd];omega
theorem FA (m:Int->Int) {b:aF} {n:Int} (he:eg b n=0):tot (dI b n).qs (wc m)=tot b.qs (wc m):=by
 unfold dI;rw [if_pos he];dsimp only;rw [Lf m (nG he).2.2,Nd];omega
theorem JD {s:af} (h:s.right) (hp:cy s) (c:aZ) (he:(iK s c).2.2=0):cy (iK s c).1:=by
 unfold iK at he |-;split
 ·rename_i hk;rw [if_pos hk] at he;split
  ·rename_i ht;rw [if_pos ht] at he;intro x hx;dsimp only;rw [HR _ he];exact hp x hx
  ·exact hp
 rename_i hk;rw [if_neg hk] at he;split
 ·rename_i hk;rw [if_pos hk] at he;exact ry h hp (ME he).2
 rename_i hk;rw [if_neg hk] at he;split
 ·exact hp
 rename_i hf;rw [if_neg hf] at he;split
 case isFalse=>exact hp
 rename_i ha;rw [if_pos ha] at he;split
 ·rename_i hk;rw [if_pos hk] at he;intro x hx;dsimp only;rw [FA _ he];exact hp x hx
 ·rename_i hk;rw [if_neg hk] at he;obtain ⟨e1,e2⟩:=tD he;intro x hx;dsimp only;unfold om;rw [if_pos e1,HR _ e2,FA _ e1];exact hp x hx
theorem Ox {s:af} (hp:cy s) (c:aZ):cy (p7 s c).1:=by
 unfold p7;split
 case isFalse=>exact hp
 split
 case isFalse=>exact hp
 split
 ·exact hp
 split
 case isFalse=>exact hp
 split<;>exact hp
def qV (c:Int) (d:aN):Int:=if d.cur=c then d.bW else 0
theorem Kq {f:Bool} {last:aN}:∀ (l:List aN) (s:Bool × aN),
  (∀ d∈l,(f||jv last d)=true->(gV f last l s).1=true /\ ¬ jv d (gV f last l s).2=true)/\(s.1=true->(gV f last l s).1=true /\ ¬ jv s.2 (gV f last l s).2=true)
 | [],s=>⟨fun d hd=>(by cases hd),fun h=>⟨h,by rw [gC];simp only [gV];omega⟩⟩
 | x :: r,s=>by
  simp only [gV];obtain ⟨i1,i2⟩:=Kq (f:=f) (last:=last) r (if zb f last s x=true then (true,x) else s);constructor
  ·intro d hd hc;rcases List.mem_cons.1 hd with rfl | hd
   ·by_cases hb:zb f last s d=true
    ·rw [if_pos hb] at i2 |-;exact i2 rfl
    ·rw [if_neg hb] at i2 |-;simp only [zb,hc,Bool.true_and,Bool.or_eq_true,Bool.not_eq_true',not_or] at hb;have h1:s.1=true:=by simpa using hb.1
     obtain ⟨j1,j2⟩:=i2 h1;refine ⟨j1,fun h=>?_⟩;have h2:=hb.2;rw [gC] at h j2 h2;omega
   ·exact i1 d hd hc
  ·intro hs
   by_cases hb:zb f last s x=true
   ·rw [if_pos hb] at i2 |-;obtain ⟨j1,j2⟩:=i2 rfl;refine ⟨j1,fun h=>?_⟩;simp only [zb,hs,Bool.not_true,Bool.false_or,bZ] at hb;have h2:=hb.2;dsimp only at j2;rw [gC] at h j2 h2;omega
   ·rw [if_neg hb] at i2 |-;exact i2 hs
theorem MU (w c:Int) (l:List aN):az (uq w c l)=tot l (fun d=>if d.who=w/\d.cur=c then d.bW else 0):=by
 induction l with
 | nil=>rfl
 | cons d r ih =>
  unfold uq at ih |-;rw [nB,ih,eR];congr 1;simp only [EO,bZ,beq_iff_eq]
theorem Km {c:Int} {l:List aN} (hl:oY l=true):∀ (n:Nat) (f:Bool) (last:aN) (out:List aN),KL f last l < n->(Au l n f last out).2=0->tot (Au l n f last out).1 (qV c)=tot out (qV c)+tot l (fun d=>if (f||jv last d)=true then qV c d else 0)
 | 0,_,_,_,h,_=>by omega
 | n+1,f,last,out,hn,h=>by
  obtain ⟨hm1,hm2⟩:=Kq (f:=f) (last:=last) l (false,.zero);have hmem:=yF (f:=f) (last:=last) (l:=l) (s:=(false,.zero));simp only [Au] at h |-;obtain ⟨S,hS⟩:=aL (gV f last l (false,.zero));rw [<- hS] at h hm1 hmem |-;split
  ·rename_i hf;rw [if_pos hf] at h;split
   ·rename_i hg;rw [if_pos hg] at h
    obtain ⟨k1,k2⟩:S.2∈l/\(f||jv last S.2)=true:=by
     rcases hmem hf with e | e
     ·rw [e] at hf;cases hf
     ·exact e
    have hlt:=E0 k1 k2;rw [Km hl n false S.2 _ (by omega) h,Gx];have hgn:ji S.2.who S.2.cur l=az (uq S.2.who S.2.cur l):=by unfold ji;rw [if_pos hg]
    have e1:tot (Iz l S.2) (qV c)=tot l (fun d=>if d.who=S.2.who/\d.cur=S.2.cur then qV c d else 0):=by
     have e2:tot (Iz l S.2) (qV c)=if S.2.cur=c then ji S.2.who S.2.cur l else 0:=by
      unfold Iz;split
      ·rename_i hz;have hz:ji S.2.who S.2.cur l=0:=by simpa using hz
       rw [hz];split<;>rfl
      ·simp only [tot,List.map_cons,List.map_nil,az,qV];omega
     rw [e2,hgn,MU]
     by_cases hc:S.2.cur=c
     ·rw [if_pos hc];refine cq fun d _=>?_
      by_cases hd:d.who=S.2.who/\d.cur=S.2.cur
      ·rw [if_pos hd,if_pos hd];unfold qV;rw [if_pos (by rw [hd.2,hc])]
      ·rw [if_neg hd,if_neg hd]
     ·rw [if_neg hc,gp];intro d _
      by_cases hd:d.who=S.2.who/\d.cur=S.2.cur
      ·rw [if_pos hd];unfold qV;rw [if_neg (by rw [hd.2];exact hc)]
      ·rw [if_neg hd]
    rw [e1,Int.add_assoc,<- gT];congr 1;refine cq fun d hd=>?_
    by_cases hq:(f||jv last d)=true
    ·rw [if_pos hq];have hmn:=(hm1 d hd hq).2
     by_cases he:d.who=S.2.who/\d.cur=S.2.cur
     ·rw [if_pos he,if_neg]
      ·omega
      ·rw [Bool.false_or,gC];omega
     ·rw [if_neg he,if_pos]
      ·omega
      ·rw [Bool.false_or,gC];rw [gC] at hmn;omega
    ·rw [if_neg hq]
     have hqf:f=false /\ ¬ jv last d=true:=by
      simp only [Bool.or_eq_true,not_or] at hq;exact ⟨by simpa using hq.1,hq.2⟩
     have k2:=k2;rw [hqf.1,Bool.false_or,gC] at k2;have h2:=hqf.2;rw [gC] at h2;rw [if_neg (by omega),if_neg (by rw [Bool.false_or,gC];omega)];rfl
   ·rename_i hg;rw [if_neg hg] at h;exact absurd h hg
  ·rename_i hf
   have:tot l (fun d=>if (f||jv last d)=true then qV c d else 0)=0:=gp fun d hd=>by
    rw [if_neg];intro hq;exact hf (hm1 d hd hq).1
   rw [this];dsimp only;omega
theorem L9 {c:Int} {l:List aN} (h:(ju l).2=0):tot (ju l).1 (qV c)=tot l (qV c):=by
 unfold ju at h |-;split
 ·rename_i hm;rw [if_pos hm] at h
  rw [Km hm _ _ _ _ (by
   have:KL true .zero l<=l.length:=List.countP_le_length
   omega) h]
  simp only [Bool.true_or,if_true];simp [tot,az]
 ·rename_i hm;rw [if_neg hm] at h;cases h
theorem Fj (c:Int):∀ l:List aN,az (dL (nu c) (n6 l)) = -tot l (qV c)
 | []=>rfl
 | d :: r=>by
  have ih:=Fj c r;unfold n6 at ih |-;rw [List.flatMap_cons,wF,ih,eR,lV,lV]
  have e1:¬ (aW.bH ⟨2,d.who,d.cur,d.bW⟩=nu c):=by
   intro e;have:=congrArg aH.kind e;cases this
  rw [if_neg e1]
  have e2:(aW.bH ⟨5,0,d.cur,-d.bW⟩=nu c) ↔ d.cur=c:=by
   simp [aW.bH,nu]
  simp only [e2,qV,dL,pick,List.flatMap_nil,az];split<;>omega
theorem Pb {c:Int} (hc:0<=c/\c<=2) {l:List aN} (h:qD l=0):az (dL (nu c) (nM l)) = -tot l (qV c):=by
 unfold nM;rw [if_pos h];unfold qD at h;split at h
 case isFalse=>cases h
 split at h
 case isFalse hne=>exact absurd h hne
 rename_i hn;rw [yy (tN hc) h,Fj,L9 hn]
theorem EM {l:bq} {g:List aW} {e:Int} {a:aH} (ha:a∈gE) (h0:(fu l g e).2=0):e=0/\gw a (fu l g e).1.bs=gw a l.bs+az (dL a g):=by
 unfold fu at h0 |-;split
 ·rename_i hc;rw [if_pos hc] at h0;exact ⟨hc.1,Mn h0 ha⟩
 ·rename_i hc;rw [if_neg hc] at h0;have h0:e=0:=h0
  have hg:g=[]:=by
   by_cases hg:g=[]
   ·exact hg
   ·exact absurd ⟨h0,hg⟩ hc
  rw [hg];exact ⟨h0,by simp [dL,pick,az]⟩
theorem FP {s:af} (hp:cy s) (he:gP s=0):cy (jB s):=by
 unfold jB;rw [if_pos he];unfold gP at he;split at he
 case isFalse=>cases he
 rename_i h1;split at he
 case isFalse=>cases he
 split at he
 case isFalse hne=>exact absurd he hne
 rename_i h3;split at he
 case isFalse hne=>exact absurd he hne
 rename_i h4;have hr:=gA.1 h1;have h5:=(MQ h3).2.2;intro c hc;dsimp only;obtain ⟨p1,p2⟩:=EM (tN hc) (show (fu s.aU (nM (iy s)) (qD (iy s))).2=0 from he)
 have e1:gw (nu c) (xd s).1.bs=gw (nu c) s.aU.bs + -tot (oX s.aj s.book) (qV c):=by
  show gw (nu c) (fu s.aU (nM (iy s)) (qD (iy s))).1.bs=_
  rw [p2,Pb hc p1];congr 2;exact L9 h4
 have e2:∀ r2:au,(∀ n,bf s.aj n=true->mR r2 c n=mR s.aj c n)->tot (vi s.aj s.book).qs (wc (mR r2 c))=tot s.book.qs (fun p=>mR s.aj c p.inst*(p.aV*dU (aT s.aj p.inst))):=fun r2 hm=>by
  unfold vi;rw [if_pos h3];dsimp only;rw [tH];refine cq fun p hpm=>?_
  have hi:=(BS (h5 p hpm)).1;unfold mQ;split
  ·rename_i hz;simp only [bZ,beq_iff_eq] at hz;rw [hz.2];simp [tot,az]
  ·simp only [tot,List.map_cons,List.map_nil,az,wc];rw [hm _ hi];omega
 have e3:tot (oX s.aj s.book) (qV c)=tot s.book.qs (fun p=>mR s.aj c p.inst*(p.aV*dU (aT s.aj p.inst)) + -(wc (mR s.aj c) p)):=by
  unfold oX;rw [if_pos h3];unfold tot;rw [List.map_map];refine cq (L:=s.book.qs) fun p hpm=>?_
  have hi:=(BS (h5 p hpm)).1
  show qV c (vU s.aj p)=_
  unfold qV vU mR wc gI;simp only [mR,hi,Bool.true_and,beq_iff_eq]
  by_cases hcc:(aT s.aj p.inst).cur=c
  ·simp only [if_pos hcc];generalize (aT s.aj p.inst).mult=m;generalize dU (aT s.aj p.inst)=pr;have e:p.aV*(pr*m)=m*(p.aV*pr):=by rw [<- Int.mul_assoc,Int.mul_comm]
   have e':-p.cost*m = -(m*p.cost):=by rw [Int.neg_mul,Int.mul_comm]
   rw [e,e']
  ·simp only [if_neg hcc];simp
 rw [e1,e3,e2 _ (fun n hn=>Py (HZ hr.aj).2 hn c),gT]
 have e4:tot s.book.qs (fun p=>-(wc (mR s.aj c) p)) = -tot s.book.qs (wc (mR s.aj c)):=by
  have:=Td s.book.qs (wc (mR s.aj c)) (-1);rw [show (fun p=>-(wc (mR s.aj c) p))=(fun p=>-1*wc (mR s.aj c) p) from funext fun p=>by omega,this];omega
 rw [e4];have:=hp c hc;omega
theorem H6:∀ (l:List aB) (x:au × List aB),(∀ c∈l,bC x.1 c.who≠0)->x.1.okB=true->(qi l x).1.ns=x.1.ns
 | [],_,_,_=>rfl
 | c :: r,x,h1,h2=>by
  have h:=tL h2 (h1 c (by simp)) (p:=2) (by omega);obtain ⟨p1,p2,p3,_⟩:=Dw h;simp only [qi]
  rw [H6 r _ (fun y hy=>by
   dsimp only;rw [p2];split
   ·decide
   ·exact h1 y (by simp [hy])) p1,p3]
theorem KD {s:af} {n:Int} (hp:cy s) (he:oc s n=0):cy (gq s n):=by
 unfold gq;rw [if_pos he];unfold oc at he;split at he
 case isFalse=>cases he
 rename_i h1;have hr:=gA.1 h1
 have hns:=H6 (mN (s.now+n) s.calls) (s.aj,s.calls) (fun c hc=>by
  obtain ⟨x,hx,hc⟩:=List.mem_flatMap.1 hc;split at hc
  ·obtain rfl:=List.mem_singleton.1 hc;have:=hr.known.cs _ hx;dsimp only;omega
  ·cases hc) hr.aj
 intro c hc;dsimp only;rw [Ut hns];exact hp c hc
theorem Ms {k c n all:Int} {ws gs:List Int} (hk:k≠5):nX (sN k c n all ws gs):=by
 unfold sN;split
 ·refine Bg (H9 fun x hx=>?_);unfold Ds at hx;rcases List.mem_cons.1 hx with rfl | hx
  ·show (6:Int)≠5
   decide
  ·obtain ⟨i,_,hx⟩:=jf.1 hx;unfold sO at hx;obtain rfl:=List.mem_singleton.1 hx;exact hk
 ·intro _ _;rfl
theorem Tc (l:bq) (c n:Int) (ws:List Int):nX (zo l c n ws):=by
 unfold zo;split
 ·exact Ms (by decide)
 ·intro _ _;rfl
theorem Nr (r:au) (c n:Int) (ws:List Int):nX (oE r c n ws):=by
 unfold oE;split
 ·exact Ms (by decide)
 ·intro _ _;rfl
theorem R8 {s:af} {w:Int} {i:Nat} {gain:Int} {f:dM} {a b:Int} {c:Int} (hc:0<=c/\c<=2) (hg:bP gain=true) (h:(kK s w i gain f a b).2.2=0):az (dL (nu c) (kK s w i gain f a b).1)=if (i:Int)=c then -gain else 0:=by
 unfold kK at h |-;split
 case isFalse hne=>rw [if_neg hne] at h;exact absurd h hne
 rename_i h1;rw [if_pos h1] at h;split
 case isFalse hne=>rw [if_neg hne] at h;exact absurd h hne
 rename_i h2;rw [if_pos h2] at h;split
 case isFalse hne=>rw [if_neg hne] at h;cases h
 rename_i h3;rw [if_pos h3] at h;dsimp only at h |-;rw [yy (tN hc) h];unfold KB TE;have hv:∀ (k1 w1 k2 w2 n:Int),k1≠5->k2≠5->az (dL (nu c) (bN ⟨k1,w1,i⟩ ⟨k2,w2,i⟩ n))=0:=fun k1 w1 k2 w2 n h1 h2=>oo h1 h2 c hc
 simp only [wF];rw [hv 1 0 2 w _ (by decide) (by decide),hv 6 0 2 w _ (by decide) (by decide),hv 2 w 6 0 _ (by decide) (by decide),hv 3 w 6 0 _ (by decide) (by decide),hv 4 0 6 0 _ (by decide) (by decide),hv 2 w 1 0 _ (by decide) (by decide),hv 3 w 1 0 _ (by decide) (by decide),Tc _ _ _ _ c hc,Nr _ _ _ _ c hc,NA hg];have e1:((⟨5,0,(i:Int)⟩:aH)=nu c) ↔ (i:Int)=c:=by simp [nu]
 have e2:¬ ((⟨2,w,(i:Int)⟩:aH)=nu c):=by simp [nu]
 rw [if_neg e2];simp only [e1];omega
theorem Ik {s:af} {w c:Int} (hc:0<=c/\c<=2):∀ (m i:Nat) (l:bq) (p:List aN),(ni s w m i l p).2.2=0->gw (nu c) (ni s w m i l p).1.bs=gw (nu c) l.bs+if (i:Int)<=c/\c < (i:Int)+m then -bL s w c.toNat else 0
 | 0,i,l,p,_=>by simp only [ni];rw [if_neg (by omega)];omega
 | m+1,i,l,p,h=>by
  simp only [ni] at h |-;split
  ·rename_i h0;rw [if_pos h0] at h;obtain ⟨p1,p2⟩:=EM (tN hc) h0;rw [Ik hc m (i+1) _ _ h,p2];have hv:az (dL (nu c) (iu s w i).1)=if (i:Int)=c then -bL s w i else 0:=R8 hc (xP _ _ _) p1
   rw [hv]
   by_cases hi:(i:Int)=c
   ·have:c.toNat=i:=by omega
    rw [this,if_pos hi,if_neg (by omega),if_pos (by omega)];omega
   ·rw [if_neg hi]
    by_cases hj:(i:Int) < c/\c < (i:Int)+(m+1:Nat)
    ·rw [if_pos (by omega),if_pos (by omega)];omega
    ·rw [if_neg (by omega),if_neg (by omega)];omega
  ·rename_i h0;rw [if_neg h0] at h;exact absurd h h0
theorem Sf (m:Int->Int) (w:Int) (l:List aA):tot (mO w l) (wc m)+tot l (fun p=>if p.who=w then wc m p else 0)=tot l (wc m):=by
 unfold mO;rw [tH,<- gT];refine cq fun p _=>?_
 by_cases h:p.who=w
 ·rw [if_pos (by simpa using h),if_pos h];simp [tot,az]
 ·rw [if_neg (by simpa using h),if_neg h];simp [tot,az]
theorem Mj {s:af} {w c:Int}:∀ {l:List aA},(∀ p∈l,bf s.aj p.inst=true)->az (uq w c (oQ s w l)) = -tot l (fun p=>if p.who=w then wc (mR s.aj c) p else 0)
 | [],_=>rfl
 | p :: r,h=>by
  have ih:=Mj (s:=s) (w:=w) (c:=c) (l:=r) fun q hq=>h q (by simp [hq])
  have hi:=h p (by simp);rw [MU] at ih |-;unfold oQ at ih |-;rw [List.flatMap_cons,Gx,ih,eR]
  have:tot (K8 s w p) (fun d=>if d.who=w/\d.cur=c then d.bW else 0) = -(if p.who=w then wc (mR s.aj c) p else 0):=by
   unfold K8
   by_cases hw:p.who=w
   ·rw [if_pos (by simpa using hw),if_pos hw];simp only [tot,List.map_cons,List.map_nil,az,true_and,wc,mR,hi,Bool.true_and,beq_iff_eq,gI];split
    ·generalize (aT s.aj p.inst).mult=m;rw [Int.zero_mul,Int.mul_zero,Int.neg_mul,Int.mul_comm p.cost m];omega
    ·simp
   ·rw [if_neg (by simpa using hw),if_neg hw];rfl
  rw [this];omega
theorem OL {s:af} {w:Int} (hp:cy s) (he:uv s w=0):cy (lT s w):=by
 unfold lT;rw [if_pos he];obtain ⟨e1,e2,_,e4⟩:=GM he;obtain ⟨hm,hG⟩:=A0 e1;obtain ⟨h1,hs⟩:=tQ hm;have hr:=gA.1 h1;have hpz:=tL hr.aj (w:=w) (p:=3) (by omega) (by omega);obtain ⟨_,_,hns,_⟩:=Dw hpz;have hw:=(Hv hr.aj (w:=w) (by omega)).2;have hknow:=(Hy hr hw hs 8 0 rfl (b:=s.book) ⟨hr.book,hr.known,rfl⟩ (fun k hk=>by omega) hG).1.known;have hgA:=vB e2;intro c hc;dsimp only;rw [Ut hns,Ik hc 3 0 s.aU [] e4,if_pos (by omega)];have hq:(oL s w).qs=mO w (mo s w 8 0 s.book).1.qs:=by unfold oL;rw [if_pos e1]
 have hd:qq s w=oQ s w (mo s w 8 0 s.book).1.qs:=by unfold qq;rw [if_pos e1]
 have hgE:kP w ((c.toNat:Nat):Int) (qq s w)=0:=hgA c.toNat (by omega) (by omega)
 have hgain:bL s w c.toNat = -tot (mo s w 8 0 s.book).1.qs (fun p=>if p.who=w then wc (mR s.aj c) p else 0):=by
  unfold bL ji;rw [if_pos hgE,hd,show ((c.toNat:Nat):Int)=c by omega];exact Mj fun p hp=>(hknow.qs p hp).2
 have hk:=Sf (mR s.aj c) w (mo s w 8 0 s.book).1.qs;have hwp:=MH (mR s.aj c) (s:=s) (w:=w) 8 0 hG;have:=hp c hc;rw [hq,hgain];omega
theorem Hx {s:af} (hp:cy s) (he:iB s=0):cy (iY s):=by
 unfold iY;rw [if_pos he];exact hp
theorem KV {s:af} (hp:cy s) (he:rS s=0):cy (rT s):=by
 unfold rT;rw [if_pos he];exact hp
theorem Iq {s:af} {c:aZ} (h:s.right) (hp:cy s) (he:(fj s c).2.1=0):cy (fj s c).1:=by
 revert he
 exact oS s c (P:=fun m=>m.2.1=0->cy m.1) (fun he=>ry h hp (HL he).2) (fun he=>ry h hp (Mm he).2) (fun he=>ry h hp (MJ he).2) (fun _=>OS hp c) (fun _=>Gq hp c _) (fun _=>nx hp (oo (by decide) (by decide)))
  (fun he=>JD h hp c he) (fun he=>FP hp he) (fun he=>Hx hp he) (fun he=>KV hp he) (fun he=>KD hp he) (fun _=>Ox hp c) (fun he=>OL hp he) (fun _=>Cp 3 0 [] hp) (fun _ _ _=>hp)
theorem OV {s:af} {c:aZ} (h:s.right) (hp:cy s):cy (uy s c).1:=by
 unfold uy;split
 ·exact hp
 show cy (aQ s c).1
 unfold aQ bB;split
 ·rename_i he;exact Iq h hp he
 ·exact hp
theorem holds_of {s:af} (h:s.right) (hp:cy s):ir s=true:=by
 have hb:=dG.1 h.book;have hl:=iT.1 h.aU;simp only [ir,bZ,gA.2 h,true_and,List.all_eq_true];refine ⟨fun i hi=>?_,fun c hc=>⟨?_,?_⟩⟩
 ·simp only [qZ,beq_iff_eq];exact hb.level _ (by omega) (by have:=List.mem_range.1 hi;omega)
 ·simp only [mZ,beq_iff_eq];rw [Ni];exact E6 h.aU _
 ·simp only [pZ,beq_iff_eq];rw [cY,Rj _ hl.2.1.2]
  have e:az (BL s.aj (c:Nat) s.book.qs)=tot s.book.qs (wc (mR s.aj (c:Nat))):=by
   rw [<- RQ];unfold BL WU;generalize s.book.qs=l
   induction l with
   | nil=>rfl
   | cons p r ih =>
    rw [eR,List.filter_cons];split
    ·rename_i hq;rw [List.map_cons,az,ih]
    ·rename_i hq;rw [ih];omega
  rw [e];exact hp _ (by have:=List.mem_range.1 hc;omega)
end Go.Proofs.YtnkobepdbkmedaaGreat
