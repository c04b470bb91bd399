/- Right states: what a command makes of a state, and what follows. No theorem of a claim. -/
import Derived.Test.YtnkobepdbkmedaaGreatDoorKI
import Derived.Test.YtnkobepdbkmedaaGreatDoorKJ
set_option linter.unusedSimpArgs false
set_option linter.unusedVariables false
set_option maxHeartbeats 4000000
set_option maxRecDepth 16000
namespace Go.Proofs.YtnkobepdbkmedaaGreatDoor
open Go.Abs
theorem pL (s:af) (c:aZ) {P:af × Int × Int × Int × List aQ × List eY->Prop}
  (a1:P ({ s with aj:=jX s.aj c.who c.cm },ju s.aj c.who c.cm,0,0,[],[]))
  (a2:P ({ s with aj:=oD s.aj (xz c) },nh s.aj (xz c),0,0,[],[]))
  (a3:P ({ s with aj:=oG s.aj ⟨c.no,c.cur,c.aX,c.cm⟩ },ni s.aj ⟨c.no,c.cur,c.aX,c.cm⟩,0,0,[],[]))
  (a4:P ((oZ s c).1,(oZ s c).2,0,0,[],[]))
  (a6:P ((kI s c (oq c)).1,(kI s c (oq c)).2,0,0,[],[]))
  (a9:P (lE s (bS ⟨1,0,c.cur⟩ ⟨4,0,c.cur⟩ c.cm),tH s (bS ⟨1,0,c.cur⟩ ⟨4,0,c.cur⟩ c.cm),0,0,[],[]))
  (a10:P ((jr s c).1,(jr s c).2.2,(jr s c).2.1,0,[],[]))
  (a14:P (jR s,ig s,0,0,pV s,[]))
  (a15:P (jz s,iT s,0,0,nP s,[]))
  (a16:P (th s,sV s,0,0,[],[]))
  (a17:P (gP s c.cm,oV s c.cm,0,0,AH s c.cm,[]))
  (a18:P ((rF s c).1,(rF s c).2,0,0,[],[]))
  (a19:P (mu s c.who,wP s c.who,0,0,JZ s c.who,Le s c.who))
  (a20:P ((kR 3 0 s []).1,(kR 3 0 s []).2.2,0,0,(kR 3 0 s []).2.1,[]))
  (a0:∀ e v,P (s,e,0,v,[],[])):P (fD s c):=by
 unfold fD
 by_cases k0:c.kind=1
 ·rw [if_pos k0];exact a1
 rw [if_neg k0]
 by_cases k1:c.kind=2
 ·rw [if_pos k1];exact a2
 rw [if_neg k1]
 by_cases k2:c.kind=3
 ·rw [if_pos k2];exact a3
 rw [if_neg k2]
 by_cases k3:c.kind=4\/c.kind=5\/c.kind=8
 ·rw [if_pos k3];exact a4
 rw [if_neg k3]
 by_cases k4:c.kind=6\/c.kind=7
 ·rw [if_pos k4];exact a6
 rw [if_neg k4]
 by_cases k5:c.kind=9
 ·rw [if_pos k5];split
  ·exact a9
  ·exact a0 _ _
 rw [if_neg k5]
 by_cases k6:c.kind=10\/c.kind=11\/c.kind=12\/c.kind=13
 ·rw [if_pos k6];split
  ·exact a10
  ·exact a0 _ _
 rw [if_neg k6]
 by_cases k7:c.kind=14
 ·rw [if_pos k7];exact a14
 rw [if_neg k7]
 by_cases k8:c.kind=15
 ·rw [if_pos k8];exact a15
 rw [if_neg k8]
 by_cases k9:c.kind=16
 ·rw [if_pos k9];exact a16
 rw [if_neg k9]
 by_cases k10:c.kind=17
 ·rw [if_pos k10];exact a17
 rw [if_neg k10]
 by_cases k11:c.kind=18
 ·rw [if_pos k11];exact a18
 rw [if_neg k11]
 by_cases k12:c.kind=19
 ·rw [if_pos k12];exact a19
 rw [if_neg k12]
 by_cases k13:c.kind=20
 ·rw [if_pos k13];exact a20
 rw [if_neg k13]
 by_cases k14:c.kind=21
 ·rw [if_pos k14];split
  ·exact a0 _ _
  ·exact a0 _ _
 rw [if_neg k14]
 by_cases k15:c.kind=22
 ·rw [if_pos k15];split
  ·exact a0 _ _
  ·exact a0 _ _
 rw [if_neg k15];exact a0 _ _
theorem MR {s:af} {c:aZ} (h:s.right) (he:(fD s c).2.1=0):(fD s c).1.right:=by
 revert he
 exact pL s c (P:=fun m=>m.2.1=0->m.1.right) (fun he=>sF h (MZ he)) (fun he=>sF h (QX he)) (fun he=>sF h (QH he)) (fun _=>SL h c) (fun _=>KM h c _) (fun _=>n7 h _) (fun he=>Ng h c he)
  (fun he=>K6 he) (fun he=>JH he) (fun he=>O5 he) (fun he=>OV he) (fun _=>RP h c) (fun he=>RZ he) (fun _=>Gp 3 0 [] h) (fun _ _ _=>h)
theorem MF {s:af} {c:aZ} (h:s.right):(aV s c).1.right:=by
 unfold aV bF;split
 ·rename_i he;exact MR h he
 ·exact h
theorem Je:∀ (l:List Int) (lo hi:Int),l.Pairwise (fun a c=>a < c)->(∀ x∈l,lo<=x/\x < hi)->lo<=hi->(l.length:Int)<=hi-lo
 | [],lo,hi,_,_,h=>by simp;omega
 | x :: r,lo,hi,hp,hx,hlh=>by
  rw [List.pairwise_cons] at hp;have hx0:=hx x (by simp);have:=Je r (x+1) hi hp.2 (fun y hy=>by have:=hp.1 y hy;have:=hx y (by simp [hy]);omega) (by omega);simp only [List.length_cons];omega
theorem yQ {A:Type} {xs:List A} (f:A->Int) (lo hi:Int) {R:A->A->Prop} (hp:xs.Pairwise R) (hf:∀ a∈xs,∀ b∈xs,R a b->f a < f b) (hx:∀ x∈xs,lo<=f x/\f x < hi) (h:lo<=hi):(xs.length:Int)<=hi-lo:=by
 have h1:(xs.map f).Pairwise (fun a c=>a < c):=by
  rw [List.pairwise_map];exact List.Pairwise.imp_of_mem (fun {p q} hp hq hpq=>hf p hp q hq hpq) hp
 have:=Je _ lo hi h1 (fun x hx'=>by
  obtain ⟨y,hy,rfl⟩:=List.mem_map.1 hx'
  exact hx y hy) h
 rwa [aJ] at this
structure af.lens (s:af):Prop where
 ms:s.aj.ms.length<=16
 ns:s.aj.ns.length<=8
 xs:s.aj.xs.length<=6
 ts:s.book.ts.length<=128
 qs:s.book.qs.length<=128
 bs:s.aW.bs.length<=1000
 ps:s.ps.length<=1000
 calls:s.calls.length<=1000
 bp:s.bp.length<=32
 aN:s.aN.length<=8
theorem af.right.lens {s:af} (h:s.right):s.lens:=by
 obtain ⟨⟨o1,p1⟩,⟨o2,p2⟩,⟨o3,p3⟩⟩:=eo.1 h.aj;have hl:=j6.1 h.aW;have hg:=gY.1 h.ps;have hc:=n8.1 h.calls;have hs:=(pW (lt:=dI) qN).1 h.aN;refine ⟨?_,?_,?_,(eM.1 h.book).tl,Gi h.book,?_,?_,?_,h.bl,?_⟩
 ·have:=yQ ak.no 1 17 p1 (fun _ _ _ _ h=>h) (fun x hx=>by have:=vU (o1 x hx);omega) (by decide);omega
 ·have:=yQ ay.no 1 9 p2 (fun _ _ _ _ h=>h) (fun x hx=>by have:=Ef (o2 x hx);omega) (by decide);omega
 ·have:=yQ au.a 1 7 p3 (fun _ _ _ _ h=>h) (fun x hx=>by have:=Fy (o3 x hx);omega) (by decide);omega
 ·have hr:=fun b hb=>jx (oa h.aW b hb)
  have:=yQ (fun b:bC=>b.bB.kind*64+b.bB.who*3+b.bB.cur) 0 500 hl.2.1.2 (fun a ha b hb hab=>by
   have:=hr a ha;have:=hr b hb
   rw [ng] at hab;omega) (fun x hx=>by have:=hr x hx;omega) (by decide)
  omega
 ·have hr:∀ p∈s.ps,0<=p.key/\p.key < 500:=fun p hp=>by
   have:=mD.1 (hg.1 p hp).1;unfold dS.key;omega
  have:=yQ dS.key 0 500 hg.2 (fun _ _ _ _ h=>h) hr (by decide);omega
 ·have hr:=fun b hb=>vD.1 (hc.1 b hb)
  have:=yQ (fun b:aA=>b.who*3+b.cur) 0 500 hc.2 (fun a ha b hb hab=>by
   have:=hr a ha;have:=hr b hb
   simp only [bQ,Bool.or_eq_true,cr,decide_eq_true_eq,beq_iff_eq] at hab;omega) (fun x hx=>by have:=hr x hx;omega) (by decide)
  omega
 ·have hr:∀ x∈s.aN,1<=x.client/\x.client<=8:=fun x hx=>by
   have:=hs.1 x hx;simp only [fA,within,cr,decide_eq_true_eq] at this;omega
  have:=yQ ck.client 1 9 hs.2 (fun a _ b _ hab=>by simpa [dI] using hab) (fun x hx=>by have:=hr x hx;omega) (by decide);omega
structure af.gF (s:af):Prop where
 right:s.right
 last:s.aW.last<=1099511627776
 fit:∀ x∈s.aN,x.r.fits
theorem QN {n:Int} (h:bL n=true):dj n:=by
 rw [cg] at h;exact ⟨by omega,by omega⟩
theorem af.right.cU {s:af} (h:s.right) (hla:s.aW.last<=1099511627776) (hf:∀ x∈s.aN,x.r.fits):s.cU:=by
 obtain ⟨⟨o1,p1⟩,⟨o2,p2⟩,⟨o3,p3⟩⟩:=eo.1 h.aj;have hb:=eM.1 h.book;have hl:=j6.1 h.aW;have hg:=gY.1 h.ps;have hc:=n8.1 h.calls;have hs:=(pW (lt:=dI) qN).1 h.aN;have hk:=h.NZ;have n0:=hb.n0;have n1:=hb.n1;refine ⟨⟨by omega,by omega⟩,⟨by omega,by omega⟩,⟨by omega,by omega⟩,fun x hx=>?_,fun x hx=>?_,fun x hx=>?_,⟨by omega,by omega⟩,fun x hx=>?_,fun x hx=>?_,?_,fun x hx=>?_,fun x hx=>U2 (hg.1 x hx),fun x hx=>?_,fun x hx=>?_,fun x hx=>?_⟩
 ·have:=vU (o1 x hx);exact ⟨⟨by omega,by omega⟩,⟨by omega,by omega⟩,⟨by omega,by omega⟩⟩
 ·have:=o2 x hx;simp only [ay.ok,within,cr,decide_eq_true_eq] at this;have hsh:=fun j=>Bf (o2 x hx) j
  have h0:=hsh 0;have h1:=hsh 1;have h2:=hsh 2;have h3:=hsh 3;have h4:=hsh 4;have h5:=hsh 5;simp only [ay.sh] at h0 h1 h2 h3 h4 h5;exact ⟨⟨by omega,by omega⟩,⟨by omega,by omega⟩,⟨by omega,by omega⟩,⟨by omega,by omega⟩,⟨by omega,by omega⟩,⟨by omega,by omega⟩,⟨by omega,by omega⟩,⟨by omega,by omega⟩,⟨by omega,by omega⟩,⟨by omega,by omega⟩,⟨by omega,by omega⟩,⟨by omega,by omega⟩⟩
 ·have:=o3 x hx;simp only [au.ok,within,cr,decide_eq_true_eq] at this;exact ⟨⟨by omega,by omega⟩,⟨by omega,by omega⟩,⟨by omega,by omega⟩,⟨by omega,by omega⟩⟩
 ·have:=hb.tok x hx;simp only [eW,aL.okB,pz,within,cr,Bool.not_eq_true',decide_eq_false_iff_not,decide_eq_true_eq] at this;exact ⟨⟨by omega,by omega⟩,⟨by omega,by omega⟩,⟨by omega,by omega⟩,⟨by omega,by omega⟩,⟨by omega,by omega⟩,⟨by omega,by omega⟩⟩
 ·have:=mE.1 (hb.ok x hx);exact ⟨⟨by omega,by omega⟩,⟨by omega,by omega⟩,⟨by omega,by omega⟩,QN this.2.2.2.1⟩
 ·exact ⟨by omega,by omega⟩
 ·have h1:=jx (oa h.aW x hx);have h2:=hl.2.1.1 x hx;simp only [kM,cr] at h2;simp only [bC.bB] at h1;exact ⟨⟨by omega,by omega⟩,⟨by omega,by omega⟩,⟨by omega,by omega⟩,QN h2.2.1⟩
 ·have:=vD.1 (hc.1 x hx);exact ⟨⟨by omega,by omega⟩,⟨by omega,by omega⟩,⟨by omega,by omega⟩,⟨by omega,by omega⟩⟩
 ·have:=h.bp x hx;simp only [kX,pz,within,cr,decide_eq_true_eq] at this;exact ⟨⟨by omega,by omega⟩,⟨by omega,by omega⟩,⟨by omega,by omega⟩,⟨by omega,by omega⟩,⟨by omega,by omega⟩⟩
 ·have:=hs.1 x hx;simp only [fA,within,cr,decide_eq_true_eq] at this;exact ⟨⟨by omega,by omega⟩,⟨by omega,by omega⟩,trivial,trivial,trivial,trivial,trivial,hf x hx⟩
theorem af.gF.good {s:af} (h:s.gF):s.good:=by
 have l:=h.right.lens;have h1:=l.ms;have h2:=l.ns;have h3:=l.xs;have h4:=l.ts;have h5:=l.qs;have h6:=l.bs;have h7:=l.ps;have h8:=l.calls;have h9:=l.bp;have h10:=l.aN;exact ⟨⟨⟨by omega,by omega,by omega⟩,⟨by omega,by omega⟩,by omega,by omega,by omega,by omega,by omega,h.fit⟩,h.right.cU h.last h.fit,by omega,by omega,by omega,by omega,by omega⟩
def bz.lo (l:bz):Prop:=l.last<=1099511627776
theorem Mo {l:bz} {id:Int} {g:List aY} (h:eT l id g=0):(gW l id g).lo:=by
 unfold gW;rw [if_pos h];exact (NO h).2.1.2
theorem Cy {s:af} (g:List aY) (h:s.aW.lo):(lE s g).aW.lo:=by
 unfold lE;split
 ·rename_i he;exact Mo he
 ·exact h
theorem I7 {l:bz} {g:List aY} {e:Int} (h:l.lo) (h0:(fG l g e).2=0):(fG l g e).1.lo:=by
 unfold fG at h0 |-;split
 ·rename_i hc;rw [if_pos hc] at h0;exact Mo h0
 ·exact h
theorem PY {s:af} {w:Int}:∀ (m i:Nat) (l:bz) (p:List aQ),l.lo->(nQ s w m i l p).2.2=0->(nQ s w m i l p).1.lo
 | 0,_,_,_,h,_=>h
 | m+1,i,l,p,h,he=>by
  simp only [nQ] at he |-;split
  ·rename_i h0;rw [if_pos h0] at he;exact PY m _ _ _ (I7 h h0) he
  ·rename_i h0;rw [if_neg h0] at he;exact absurd he h0
theorem P1 {s:af} (h:s.aW.lo) (c:Int):(w9 s c).1.aW.lo:=by
 unfold w9;split
 ·exact Cy _ h
 ·exact h
theorem QW:∀ (m c:Nat) {s:af} (ds:List aQ),s.aW.lo->(kR m c s ds).1.aW.lo
 | 0,_,_,_,h=>h
 | m+1,c,s,ds,h=>by
  simp only [kR];split
  ·exact QW m _ _ (P1 h _)
  ·exact P1 h _
theorem aaU {s:af} (h:s.aW.lo) (c:aZ):(oZ s c).1.aW.lo:=by
 unfold oZ;split
 case isFalse=>exact h
 split
 case isFalse=>exact h
 split
 ·exact Cy _ h
 split
 ·split
  ·exact Cy (s:=s) _ h
  ·exact Cy _ h
 ·exact Cy _ h
theorem Sd {s:af} (h:s.aW.lo) (c:aZ) (n:Int):(kI s c n).1.aW.lo:=by
 unfold kI;split
 case isFalse=>exact h
 split
 case isFalse=>exact h
 split
 case isFalse=>exact h
 split
 case isFalse=>exact h
 split
 ·exact h
 split
 ·exact h
 ·exact h
theorem Va {s:af} (h:s.aW.lo) (c:aZ):(jr s c).1.aW.lo:=by
 unfold jr;split
 ·split<;>exact h
 split
 ·exact h
 split
 ·exact h
 split
 ·split<;>exact h
 ·exact h
theorem Z2 {s:af} (h:s.aW.lo) (c:aZ):(rF s c).1.aW.lo:=by
 unfold rF;split
 case isFalse=>exact h
 split
 case isFalse=>exact h
 split
 ·exact h
 split
 case isFalse=>exact h
 split<;>exact h
theorem RI {s:af} (h:s.aW.lo) (he:ig s=0):(jR s).aW.lo:=by
 unfold jR;rw [if_pos he];unfold ig at he;split at he
 case isFalse=>cases he
 split at he
 case isFalse=>cases he
 split at he
 case isFalse hne=>exact absurd he hne
 split at he
 case isFalse hne=>exact absurd he hne
 exact I7 (l:=s.aW) h he
theorem SG {s:af} (h:s.aW.lo) (he:iT s=0):(jz s).aW.lo:=by
 unfold jz;rw [if_pos he];exact h
theorem WH {s:af} (h:s.aW.lo) (he:sV s=0):(th s).aW.lo:=by
 unfold th;rw [if_pos he];exact h
theorem WW {s:af} {n:Int} (h:s.aW.lo) (he:oV s n=0):(gP s n).aW.lo:=by
 unfold gP;rw [if_pos he];exact h
theorem aak {s:af} {w:Int} (h:s.aW.lo) (he:wP s w=0):(mu s w).aW.lo:=by
 unfold mu;rw [if_pos he];exact PY 3 0 s.aW [] h (Ky he).2.2.2
theorem Uq {s:af} {c:aZ} (h:s.aW.lo) (he:(fD s c).2.1=0):(fD s c).1.aW.lo:=by
 revert he
 exact pL s c (P:=fun m=>m.2.1=0->m.1.aW.lo) (fun _=>h) (fun _=>h) (fun _=>h) (fun _=>aaU h c) (fun _=>Sd h c _) (fun _=>Cy _ h) (fun _=>Va h c)
  (fun he=>RI h he) (fun he=>SG h he) (fun he=>WH h he) (fun he=>WW h he) (fun _=>Z2 h c) (fun he=>aak h he) (fun _=>QW 3 0 [] h) (fun _ _ _=>h)
theorem NJ {s:af} {w:Int}:∀ (m c:Nat) (x:List aA × List aQ),(oM s w m c x).1.2.length<=x.2.length+m
 | 0,_,_=>Nat.le_refl _
 | m+1,c,x=>by
  simp only [oM];split
  ·refine Nat.le_trans (NJ m _ _) ?_;simp only [List.length_append];have:(nD w c (Hg s w c)).length<=1:=by unfold nD;split<;>simp
   omega
  ·dsimp only;omega
theorem IN {s:af}:∀ (ws:List Int) (x:List aA × List aQ),(rV s ws x).1.2.length<=x.2.length+3*ws.length
 | [],_=>Nat.le_refl _
 | w :: r,x=>by
  have h1:=NJ (s:=s) (w:=w) 3 0 x;simp only [rV,List.length_cons];split
  ·have h2:=IN (s:=s) r (oM s w 3 0 x).1;omega
  ·omega
theorem Qp {s:af} {w:Int}:∀ (m i:Nat) (l:bz) (p:List aQ),(nQ s w m i l p).2.1.length<=p.length+m
 | 0,_,_,_=>Nat.le_refl _
 | m+1,i,l,p=>by
  simp only [nQ];split
  ·refine Nat.le_trans (Qp m _ _ _) ?_;simp only [List.length_append];have:(nD w i (iO s w i).2.1).length<=1:=by unfold nD;split<;>simp
   omega
  ·dsimp only;omega
theorem RS (s:af) (c:Int):(w9 s c).1.aj=s.aj:=by
 unfold w9 lE;split
 ·split<;>rfl
 ·rfl
theorem Qi:∀ (m c:Nat) (s:af) (ds:List aQ),(kR m c s ds).2.1.length<=ds.length+m*s.aj.ms.length
 | 0,_,_,_=>by simp [kR]
 | m+1,c,s,ds=>by
  simp only [kR];split
  ·refine Nat.le_trans (Qi m _ _ _) ?_;rw [RS];have:=CU s.aW s.aj c;simp only [List.length_append,Nat.succ_mul];omega
  ·simp
theorem Nr {s:af} (h:s.lens):(pV s).length<=1000:=by
 have hq:=h.qs;unfold pV iS;split
 ·have:=(J1 (qA s.aj s.book)).2;have:(qA s.aj s.book).length<=s.book.qs.length:=by unfold qA;split<;>simp
  omega
 ·simp
theorem NM {s:af} (h:s.lens):(nP s).length<=1000:=by
 have hm:=h.ms;unfold nP Sb;split
 ·have h1:=IN (s:=s) (gB s.aj [1]) (s.calls,[]);have h2:(gB s.aj [1]).length<=s.aj.ms.length:=bW _ _ _;simp only [List.length_nil] at h1;omega
 ·simp
theorem Rh {s:af} (n:Int) (h:s.lens):(AH s n).length<=1000:=by
 have hc:=h.calls;unfold AH;split
 ·rw [aJ];have:=Jv (s.now+n) s.calls;omega
 ·simp
theorem Ti {s:af} (w:Int):(JZ s w).length<=1000:=by
 unfold JZ;split
 ·have:=Qp (s:=s) (w:=w) 3 0 s.aW [];simp only [List.length_nil] at this;omega
 ·simp
theorem Tw {s:af} (w:Int):(Le s w).length<=1000:=by
 unfold Le;split
 ·rw [pO];omega
 ·simp
theorem HB {s:af} (h:s.lens):(kR 3 0 s []).2.1.length<=1000:=by
 have hm:=h.ms;have:=Qi 3 0 s [];simp only [List.length_nil] at this;omega
theorem Sa {s:af} {c:aZ} (h:s.lens):(fD s c).2.2.2.2.1.length<=1000/\(fD s c).2.2.2.2.2.length<=1000:=by
 have z:([]:List aQ).length<=1000/\([]:List eY).length<=1000:=⟨Nat.zero_le _,Nat.zero_le _⟩
 exact pL s c (P:=fun m=>m.2.2.2.2.1.length<=1000/\m.2.2.2.2.2.length<=1000) z z z z z z z ⟨Nr h,z.2⟩ ⟨NM h,z.2⟩ z ⟨Rh _ h,z.2⟩ z ⟨Ti _,Tw _⟩ ⟨HB h,z.2⟩ (fun _ _=>z)
theorem Ex {s:af} {c:aZ} (h:s.lens):(aV s c).2.fits:=by
 have hl:=Sa (c:=c) h;unfold aV bF;split
 ·simp only [bq.fits];omega
 ·simp [bq.fits,bq.err]
theorem Ok {s:af} {c:aZ} (h:s.gF):(aV s c).1.right/\(aV s c).1.aW.lo:=by
 refine ⟨MF h.right,?_⟩;unfold aV bF;split
 ·rename_i he;exact Uq h.last he
 ·exact h.last
def oN (s:af) (c:aZ) (r:bq) (i:Nat):List ck:=
 if (i:Int)+1=c.client then [⟨(i:Int)+1,c.seq,r⟩] else if 0<=gL ((i:Int)+1) s.aN 0 then [lP s (gL ((i:Int)+1) s.aN 0)] else []
def wz (s:af) (c:aZ):af × bq:=if (mq s c).2 then (s,(mq s c).1) else ({ (aV s c).1 with aN:=pq (oN s c (aV s c).2) 8 },(aV s c).2)
theorem E2 (n:Int):∀ (l:List ck) (k:Int),0<=k->0<=gL n l k->∃ (j:Nat) (h:j < l.length),gL n l k=k+j/\l[j].client=n
 | [],k,_,h=>by simp [gL] at h
 | x :: r,k,hk,h=>by
  simp only [gL] at h |-;split
  ·rename_i hx;exact ⟨0,by simp,by simp,by simpa using hx⟩
  ·rename_i hx;rw [if_neg hx] at h;obtain ⟨j,h1,h2,h3⟩:=E2 n r (k+1) (by omega) h;exact ⟨j+1,by simp;omega,by rw [h2];omega,by simpa using h3⟩
theorem zh {s:af} {n:Int} (h:0<=gL n s.aN 0):lP s (gL n s.aN 0)∈s.aN/\(lP s (gL n s.aN 0)).client=n:=by
 obtain ⟨j,hj,e,hc⟩:=E2 n s.aN 0 (by omega) h;unfold lP;rw [e,Int.zero_add,Int.toNat_natCast,List.getD_eq_getElem?_getD,List.getElem?_eq_getElem hj];exact ⟨List.getElem_mem hj,hc⟩
theorem P0 {x:ck}:fA x=true ↔ (1<=x.client/\x.client<=8)/\1<=x.seq/\x.seq<=1099511627776:=by
 simp only [fA,within,cr,decide_eq_true_eq]
theorem NA {c:aZ} (h:zK c=0):(1<=c.kind/\c.kind<=22)/\1<=c.client/\c.client<=8:=by
 unfold zK at h;split at h
 case isFalse=>cases h
 rename_i h1;split at h
 case isFalse=>cases h
 split at h
 case isFalse=>cases h
 split at h
 case isFalse=>cases h
 rename_i h2;simp only [within,cr,decide_eq_true_eq] at h1 h2;exact ⟨h1,h2⟩
theorem Fb {c:aZ} {last:Int} (h:(B3 c last).2=false) (hl:0<=last/\last<=1099511627776):c.seq=last+1/\c.seq<=1099511627776:=by
 unfold B3 at h;split at h
 case isFalse=>cases h
 rename_i h1;split at h
 ·cases h
 rename_i h2;rw [bn (by omega) (by omega)] at h1;omega
theorem Nb {s:af} {c:aZ} (hs:s.right) (h:(mq s c).2=false):zK c=0/\1<=c.seq/\c.seq<=1099511627776:=by
 have hse:=(pW (lt:=dI) qN).1 hs.aN;unfold mq at h;split at h
 case isFalse=>cases h
 rename_i h1;split at h
 ·rename_i h2;have hm:=P0.1 (hse.1 _ (zh h2).1);split at h
  ·cases h
  split at h
  ·cases h
  have:=Fb h (by omega);exact ⟨h1,by omega,this.2⟩
 ·have:=Fb h (by omega);exact ⟨h1,by omega,this.2⟩
theorem Nw (s:af) (c:aZ) (hs:s.gF):∀ i,i < 8->∀ x∈oN s c (aV s c).2 i,x.client=(i:Int)+1/\(x∈s.aN\/x=⟨c.client,c.seq,(aV s c).2⟩):=by
 intro i hi x hx;unfold oN at hx;split at hx
 ·rename_i h;obtain rfl:=List.mem_singleton.1 hx;exact ⟨rfl,.inr (by rw [h])⟩
 ·split at hx
  ·rename_i h;obtain rfl:=List.mem_singleton.1 hx;exact ⟨(zh h).2,.inl (zh h).1⟩
  ·cases hx
theorem UH {s:af} {c:aZ} (h:s.gF):(wz s c).1.gF:=by
 unfold wz;split
 ·exact h
 rename_i hk;obtain ⟨f,k1,k2⟩:=Nb h.right (by simpa using hk);obtain ⟨d1,d2⟩:=Ok (c:=c) h;have hS:=Nw s c h;have hse:=(pW (lt:=dI) qN).1 h.right.aN;have hfit:=Ex (c:=c) h.right.lens;have hcl:=NA f;refine ⟨⟨d1.NZ,d1.aj,d1.book,d1.aW,d1.ps,d1.calls,d1.known,d1.bl,d1.bp,(pW (lt:=dI) qN).2 ⟨fun x hx=>?_,?_⟩⟩,d2,fun x hx=>?_⟩
 ·obtain ⟨i,hi,hx⟩:=jv.1 hx;rcases (hS i hi x hx).2 with hx | rfl
  ·exact hse.1 x hx
  ·rw [P0];dsimp only;omega
 ·refine rX (fun i hi=>uD ?_) fun i j hij hj x hx y hy=>?_
  ·unfold oN;split;simp;split<;>simp
  ·have h1:=(hS i (by omega) x hx).1;have h2:=(hS j hj y hy).1;simp only [dI,decide_eq_true_eq];omega
 ·obtain ⟨i,hi,hx⟩:=jv.1 hx;rcases (hS i hi x hx).2 with hx | rfl
  ·exact h.fit x hx
  ·exact hfit
theorem RF:af.zero.gF:=⟨iN.1 rfl,by decide,fun x hx=>by cases hx⟩
theorem IJ {l:bz} (h:l.okB=true) (c:Int):az (fB c l.bs)=0:=by
 have hl:=j6.1 h
 by_cases hc:0<=c/\c<=2
 ·have h0:=(zF.1 hl.2.2.1).2;have h1:=(zF.1 hl.2.2.2.1).2;have h2:=(zF.1 hl.2.2.2.2).2;rcases (by omega:c=0\/c=1\/c=2) with rfl | rfl | rfl
  ·exact h0
  ·exact h1
  ·exact h2
 ·have:fB c l.bs=[]:=by
   unfold fB;rw [List.map_eq_nil_iff,List.filter_eq_nil_iff];intro b hb;have:=jx (oa h b hb);simp only [bC.bB] at this;simp only [beq_iff_eq];omega
  rw [this];rfl
theorem n9 (c:Int) (ks:List Int) (b:bC) (r:List bC):az (ij c ks (b :: r))=(if (b.cur==c&&KA ks b.kind)=true then b.sum else 0)+az (ij c ks r):=by
 simp only [ij,List.filter_cons];split<;>simp [az]
theorem MB (k x:Int):KA [k] x=decide (x=k):=by
 simp only [KA,List.length_cons,List.length_nil,Ld];rw [decide_eq_false (by omega),Bool.false_or]
theorem PK (c:Int):∀ (bs:List bC),(∀ b∈bs,1<=b.kind/\b.kind<=6)->az (ij c [1] bs)+az (ij c [2] bs)+az (ij c [3] bs)+az (ij c [4] bs)+az (ij c [5] bs)+az (ij c [6] bs)=az (fB c bs)
 | [],_=>rfl
 | b :: r,h=>by
  have ih:=PK c r fun x hx=>h x (by simp [hx])
  have hk:=h b (by simp);rw [n9,n9,n9,n9,n9,n9,Cg,<- ih,QU];simp only [MB,cr,beq_iff_eq,decide_eq_true_eq]
  by_cases hc:b.cur=c
  ·simp only [hc,true_and,if_true];rcases (by omega:b.kind=1\/b.kind=2\/b.kind=3\/b.kind=4\/b.kind=5\/b.kind=6) with e | e | e | e | e | e<;>rw [e]<;>simp<;>omega
  ·simp only [hc,false_and,if_false];omega
theorem Rw {l:bz} (h:l.okB=true):∀ b∈l.bs,1<=b.kind/\b.kind<=6:=fun b hb=>by
 have:=jx (oa h b hb);simp only [bC.bB] at this;omega
def LG (f:Nat->Int):Nat->Int
 | 0=>0
 | i+1=>LG f i+f i
theorem wrap_add (a b:Int):IntKind.wrap .i64 (IntKind.wrap .i64 a+b)=IntKind.wrap .i64 (a+b):=by
 rw [IntKind.wrap_i64,IntKind.wrap_i64,IntKind.wrap_i64];omega
def qy (c:Int):aD:=⟨5,0,c⟩
theorem vZ {c:Int} (h:0<=c/\c<=2):qy c∈gv:=by
 rw [qV];unfold qy aD.right;rw [if_neg (by dsimp only;omega)];rfl
theorem OC {a x:aD} {n:Int} (h:x≠a) (r:List bC):fj a (qT x n++r)=fj a r:=by
 unfold qT;split
 ·rfl
 ·simp only [List.cons_append,List.nil_append,fj];rw [if_neg];intro hb;exact h (AR.1 hb)
theorem Qs {a:aD} (S:aD->Int):∀ {L:List aD},L.Pairwise (fun x y=>x.less y=true)->a∈L->fj a (L.flatMap fun x=>qT x (S x))=S a
 | [],_,h=>by cases h
 | x :: r,hp,h=>by
  rw [List.pairwise_cons] at hp;rw [List.flatMap_cons]
  by_cases hx:x=a
  ·subst hx;unfold qT;split
   ·rename_i hz;have hz:S x=0:=by simpa using hz
    rw [hz,List.nil_append,EB];intro b hb hba;obtain ⟨y,hy,hb⟩:=List.mem_flatMap.1 hb;split at hb
    ·cases hb
    ·obtain rfl:=List.mem_singleton.1 hb;have:y=x:=hba;have hl:=hp.1 y hy;rw [this] at hl;exact u9 hl
   ·simp only [List.cons_append,List.nil_append,fj];rw [if_pos (show Wo x ⟨x.kind,x.who,x.cur,S x⟩=true from AR.2 rfl)]
  ·rw [OC hx];rcases List.mem_cons.1 h with h | h
   ·exact absurd h.symm hx
   ·exact Qs S hp.2 h
theorem PT {l:bz} {id:Int} {g:List aY} {a:aD} (h:eT l id g=0) (ha:a∈gv):fj a (gW l id g).bs=fj a l.bs+az (dR a g):=by
 unfold gW;rw [if_pos h];exact Qs (nB l g) A9 ha
theorem zW (a:aD) (g k:List aY):az (dR a (g++k))=az (dR a g)+az (dR a k):=by
 simp only [dR,pick,List.flatMap_append,dX]
theorem qZ {a:aD}:∀ {g:List aY},(∀ x∈g,x.bB≠a)->az (dR a g)=0
 | [],_=>rfl
 | x :: r,h=>by
  rw [mj,if_neg (h x (by simp)),qZ fun y hy=>h y (by simp [hy])];rfl
theorem BG {a:aD} {g:List aY} (ha:a∈gv) (h:nL g=0):az (dR a (ji g))=az (dR a g):=by
 unfold ji;rw [if_pos h];unfold AS
 have key:∀ {L:List aD},L.Pairwise (fun x y=>x.less y=true)->a∈L->az (dR a (L.flatMap fun x=>F4 x (az (dR x g))))=az (dR a g):=by
  intro L
  induction L with
  | nil=>intro _ h;cases h
  | cons x r ih =>
   intro hp hm;rw [List.pairwise_cons] at hp;rw [List.flatMap_cons,zW]
   have hN:∀ y:aD,∀ z∈F4 y (az (dR y g)),z.bB=y:=fun y z hz=>by
    unfold F4 at hz;split at hz
    ·cases hz
    ·obtain rfl:=List.mem_singleton.1 hz;rfl
   by_cases hx:x=a
   ·subst hx
    rw [qZ (g:=r.flatMap _) (fun z hz hza=>by
     obtain ⟨y,hy,hz⟩:=List.mem_flatMap.1 hz;have:=hN y z hz;have hl:=hp.1 y hy;rw [<- this,hza] at hl
     exact u9 hl)]
    unfold F4;split
    ·rename_i hz;have hz:az (dR x g)=0:=by simpa using hz
     rw [hz];rfl
    ·rw [mj,if_pos (show aY.bB ⟨x.kind,x.who,x.cur,az (dR x g)⟩=x from rfl)];simp [dR,pick,az]
   ·rw [qZ (g:=F4 x _) (fun z hz hza=>hx (by rw [<- hN x z hz];exact hza))];rcases List.mem_cons.1 hm with h | h
    ·exact absurd h.symm hx
    ·rw [ih hp.2 h];omega
 exact key A9 ha
theorem Rq {a x y:aD} {n:Int} (hn:bL n=true):az (dR a (bS x y n))=(if x=a then -n else 0)+(if y=a then n else 0):=by
 unfold bS;rw [hn,if_pos rfl,mj,mj]
 show (if x=a then -n else 0)+((if y=a then n else 0)+0)=_
 omega
theorem OP {x y:aD} {n:Int} {k:aY} (h:k∈bS x y n):k.bB=x\/k.bB=y:=by
 unfold bS at h;simp only [List.mem_cons,List.not_mem_nil,or_false] at h;rcases h with rfl | rfl
 ·exact .inl rfl
 ·exact .inr rfl
theorem Uw {a x y:aD} {n:Int} (h1:x≠a) (h2:y≠a):az (dR a (bS x y n))=0:=
 qZ fun k hk=>by rcases OP hk with e | e<;>rw [e]<;>assumption
theorem KS {A:Type} (l m:List A) (F:A->Int):tot (l++m) F=tot l F+tot m F:=by
 simp only [tot,List.map_append,dX]
theorem uC {A B:Type} (f:A->List B) (F:B->Int) (L:List A):tot (L.flatMap f) F=tot L (fun a=>tot (f a) F):=by
 induction L with
 | nil=>rfl
 | cons x r ih=>rw [List.flatMap_cons,KS,ih];rfl
theorem Xk {A:Type} (L:List A) (F:A->Int) (m:Int):tot L (fun a=>m*F a)=m*tot L F:=by
 induction L with
 | nil=>simp [tot,az]
 | cons x r ih=>rw [gx,gx,ih,Int.mul_add]
def wc (m:Int->Int) (p:aB):Int:=m p.inst*p.cost
theorem aaw (m:Int->Int) (b:aF) (g:List aB) (w n:Int):tot (HC b g w n) (wc m)=m n*TT b g w n:=by
 unfold HC;split
 ·rename_i h;simp only [cr,beq_iff_eq] at h;rw [h.2];simp [tot,az]
 ·simp [tot,az,wc]
theorem ajf {n v:Int} {m:Int->Int} (h:1<=n/\n<=8):tot (List.range 8) (fun j=>if n=(j:Int)+1 then m ((j:Int)+1)*v else 0)=m n*v:=by
 rw [Bt (EU 8) (x:=(n-1).toNat) (List.mem_range.2 (by omega))]
 ·rw [if_pos (by omega),show (((n-1).toNat:Nat):Int)+1=n by omega]
 ·intro a ha;rw [if_neg (by omega)]
theorem TA {m:Int->Int} {p:aB} (h1:1<=p.who/\p.who<=16) (h2:1<=p.inst/\p.inst<=8):tot (List.range 16) (fun k=>tot (List.range 8) (fun j=>if p.who=(k:Int)+1 then (if p.inst=(j:Int)+1 then m ((j:Int)+1)*p.cost else 0) else 0))=wc m p:=by
 have e:∀ k∈List.range 16,tot (List.range 8) (fun j=>if p.who=(k:Int)+1 then (if p.inst=(j:Int)+1 then m ((j:Int)+1)*p.cost else 0) else 0)=if p.who=(k:Int)+1 then wc m p else 0:=fun k _=>by
  by_cases hw:p.who=(k:Int)+1
  ·simp only [if_pos hw];exact ajf h2
  ·simp only [if_neg hw];exact gR fun _ _=>rfl
 rw [cB e,Ud h1]
theorem XG (m:Int->Int):∀ {qs:List aB},(∀ p∈qs,(1<=p.who/\p.who<=16)/\1<=p.inst/\p.inst<=8)->qs.Pairwise (fun x y=>ga x y=true)->tot (List.range 16) (fun k=>tot (List.range 8) (fun j=>m ((j:Int)+1)*(posOf ((k:Int)+1) ((j:Int)+1) qs).cost))=tot qs (wc m)
 | [],_,_=>by
  refine gR fun a _=>gR fun b _=>?_
  simp [posOf]
 | p :: r,h1,h2=>by
  rw [List.pairwise_cons] at h2;rw [gx,<- XG m (fun x hx=>h1 x (by simp [hx])) h2.2,<- TA (m:=m) (h1 p (by simp)).1 (h1 p (by simp)).2,<- iD];refine cB fun k _=>?_
  rw [<- iD];refine cB fun j _=>?_
  simp only [posOf]
  by_cases hw:p.who=(k:Int)+1
  ·rw [if_pos hw]
   by_cases hn:p.inst=(j:Int)+1
   ·rw [if_pos hn,if_pos (eP.2 ⟨hw,hn⟩)];rw [mH (qs:=r)]
    ·simp
    ·intro x hx hk;have:=h2.1 x hx;simp only [ga,Gs,Bool.or_eq_true,cr,decide_eq_true_eq,beq_iff_eq] at this;omega
   ·rw [if_neg hn,if_neg (fun h=>hn (eP.1 h).2)];omega
  ·rw [if_neg hw,if_neg (fun h=>hw (eP.1 h).1)];omega
theorem ae4 (m:Int->Int):∀ {g:List aB},(∀ p∈g,(1<=p.who/\p.who<=16)/\1<=p.inst/\p.inst<=8)->tot (List.range 16) (fun k=>tot (List.range 8) (fun j=>m ((j:Int)+1)*az (pick (dU ((k:Int)+1) ((j:Int)+1)) aB.cost g)))=tot g (wc m)
 | [],_=>by
  refine gR fun a _=>gR fun b _=>?_
  simp [pick,az]
 | p :: r,h1=>by
  rw [gx,<- ae4 m (fun x hx=>h1 x (by simp [hx])),<- TA (m:=m) (h1 p (by simp)).1 (h1 p (by simp)).2,<- iD];refine cB fun k _=>?_
  rw [<- iD];refine cB fun j _=>?_
  rw [n6,Int.mul_add];congr 1
  by_cases hw:p.who=(k:Int)+1
  ·rw [if_pos hw]
   by_cases hn:p.inst=(j:Int)+1
   ·rw [if_pos (eP.2 ⟨hw,hn⟩),if_pos hn]
   ·rw [if_neg (fun h=>hn (eP.1 h).2),if_neg hn];simp
  ·rw [if_neg hw,if_neg (fun h=>hw (eP.1 h).1)];simp
theorem OS (m:Int->Int) {b:aF} {g:List aB} (h:jH b g=0):tot (zu b g 16) (wc m)=tot b.qs (wc m)+tot g (wc m):=by
 obtain ⟨h1,_,_⟩:=vR h;have hb:=eM.1 (kZ h).1;unfold zu;rw [uC,<- XG m (fun p hp=>⟨(mE.1 (hb.ok p hp)).1,(mE.1 (hb.ok p hp)).2.1⟩) hb.pw,<- ae4 m (fun p hp=>Qk (List.all_eq_true.1 h1 p hp)),<- iD];refine cB fun k _=>?_
 unfold NY;rw [uC,<- iD];refine cB fun j _=>?_
 rw [aaw,<- Int.mul_add];rfl
theorem Qe (m:Int->Int) (t:aL) (b:Bool):tot (gz t b) (wc m)=0:=by
 unfold gz;split
 ·simp only [tot,List.map_cons,List.map_nil,az,wc,Int.neg_mul,Int.mul_neg];omega
 ·rfl
theorem VL (m:Int->Int) (w n:Int) (long:Bool) (f:List dV):tot (f.flatMap (wQ w n long)) (wc m)=0:=by
 rw [uC];refine gR fun x _=>?_
 simp only [wQ,tot,List.map_cons,List.map_nil,az,wc,Int.mul_neg];omega
theorem GU (m:Int->Int) {b:aF} {w n:Int} {long:Bool} {f:List dV} (h:(nu b w n long f).2=0):tot (nu b w n long f).1.qs (wc m)=tot b.qs (wc m):=by
 unfold nu at h |-;split
 case isFalse=>rfl
 rename_i he;rw [if_pos he] at h;dsimp only at h |-;rw [(kZ h).2]
 show tot (zu b (lu w n long f) 16) (wc m)=_
 rw [OS m h,show lu w n long f=f.flatMap (wQ w n long) from by unfold lu;rw [if_pos he],VL];omega
theorem Vb (m:Int->Int) {b:aF} {w n p rest:Int} {long:Bool} (h:(ru b w n p long rest).2=0):tot (ru b w n p long rest).1.qs (wc m)=tot b.qs (wc m):=by
 unfold ru at h |-;split
 case isFalse=>rfl
 rename_i he;rw [if_pos he] at h;exact GU m h
theorem Po (m:Int->Int) {s:af} {b:aF} {w n:Int} (h:(iB s w b n).2=0):tot (iB s w b n).1.qs (wc m)=tot b.qs (wc m):=by
 unfold iB at h |-;split
 ·rfl
 rename_i hq;rw [if_neg hq] at h;generalize (posOf w n b.qs).bg=q at h |-;unfold oL at h |-;split
 case isFalse=>rfl
 rename_i hp;rw [if_pos hp] at h;split
 case isFalse=>rfl
 rename_i hf;rw [if_pos hf] at h;split
 ·rename_i hc;rw [if_pos hc] at h;rw [Vb m h,GU m hc.1]
 ·rename_i hc;rw [if_neg hc] at h;exact GU m h
theorem P5 (m:Int->Int) {s:af} {w:Int}:∀ (k i:Nat) {b:aF},(mX s w k i b).2=0->tot (mX s w k i b).1.qs (wc m)=tot b.qs (wc m)
 | 0,_,_,_=>rfl
 | k+1,i,b,h=>by
  simp only [mX] at h |-;split
  ·rename_i h0;rw [if_pos h0] at h;rw [P5 m k (i+1) h,Po m h0]
  ·rename_i h0;rw [if_neg h0] at h;exact absurd h h0
def mR (r:aq) (c:Int) (n:Int):Int:=if (br r n&&(bf r n).cur==c)=true then (bf r n).mult else 0
def dy (s:af):Prop:=∀ c:Int,0<=c/\c<=2->fj (qy c) s.aW.bs+tot s.book.qs (wc (mR s.aj c))=0
theorem Uc {r r':aq} (e:r.ext r') {n:Int} (hi:br r n=true) (c:Int):mR r' c n=mR r c n:=by
 unfold mR;rw [hi,e.inst n hi,(e.same n hi).1,(e.same n hi).2]
theorem Y2 {r r':aq} (e:r.ext r') {qs:List aB} (hq:∀ p∈qs,br r p.inst=true) (c:Int):tot qs (wc (mR r' c))=tot qs (wc (mR r c)):=
 cB fun p hp=>by unfold wc;rw [Uc e (hq p hp)]
theorem X8 {r r':aq} (h:r'.ns=r.ns) (c:Int):mR r' c=mR r c:=by
 funext n
 unfold mR br bf;rw [h]
theorem sE {s:af} (h:s.right) (hp:dy s) {r':aq} (e:s.aj.ext r'):dy { s with aj:=r' }:=fun c hc=>by
 dsimp only;rw [Y2 e (fun p hp=>(h.known.qs p hp).2)];exact hp c hc
def pg (g:List aY):Prop:=∀ c:Int,0<=c/\c<=2->az (dR (qy c) g)=0
theorem Nl {g:List aY} (h:∀ x∈g,x.kind≠5):pg g:=fun c _=>qZ fun x hx e=>h x hx (by
 have:=congrArg aD.kind e
 exact this)
theorem EP {g:List aY} (h:pg g):pg (ji g):=fun c hc=>by
 by_cases he:nL g=0
 ·rw [BG (vZ hc) he];exact h c hc
 ·unfold ji;rw [if_neg he];rfl
theorem S3 {g k:List aY} (h1:pg g) (h2:pg k):pg (g++k):=fun c hc=>by
 rw [zW,h1 c hc,h2 c hc];rfl
theorem O4 {x y:aD} {n:Int} (h1:x.kind≠5) (h2:y.kind≠5):pg (bS x y n):=fun c _ =>
 Uw (fun e=>h1 (congrArg aD.kind e)) (fun e=>h2 (congrArg aD.kind e))
theorem oO {k1 w1 c1 k2 w2 c2 n:Int} (h1:k1≠5) (h2:k2≠5):pg (bS ⟨k1,w1,c1⟩ ⟨k2,w2,c2⟩ n):=O4 h1 h2
theorem n5 {s:af} (hp:dy s) {g:List aY} (hg:pg g):dy (lE s g):=by
 unfold lE;split
 ·rename_i he;intro c hc;dsimp only;rw [PT he (vZ hc),hg c hc,Int.add_zero];exact hp c hc
 ·exact hp
theorem RT {s:af} (hp:dy s) (c:aZ):dy (oZ s c).1:=by
 unfold oZ;split
 case isFalse=>exact hp
 split
 case isFalse=>exact hp
 split
 ·exact n5 hp (oO (by decide) (by decide))
 split
 ·split
  ·exact n5 (s:=s) hp (oO (by decide) (by decide))
  ·exact n5 hp (oO (by decide) (by decide))
 ·exact n5 hp (oO (by decide) (by decide))
theorem Lg {s:af} (hp:dy s) (c:aZ) (n:Int):dy (kI s c n).1:=by
 unfold kI;split
 case isFalse=>exact hp
 split
 case isFalse=>exact hp
 split
 case isFalse=>exact hp
 split
 case isFalse=>exact hp
 split
 ·exact hp
 split<;>exact hp
theorem Q9 (l:bz) (c:Int) (m:ak):pg (jf l c m):=by
 unfold jf;split
 ·exact oO (by decide) (by decide)
 ·intro _ _;rfl
theorem O1 (l:bz) (r:aq) (c:Int):pg (fI l r c):=by
 unfold fI;split
 ·refine EP ?_
  have:∀ ms:List ak,pg (ms.flatMap (jf l c)):=fun ms=>by
   induction ms with
   | nil=>intro _ _;rfl
   | cons m t ih=>rw [List.flatMap_cons];exact S3 (Q9 l c m) ih
  exact this _
 ·intro _ _;rfl
theorem Ey {s:af} (hp:dy s) (c:Int):dy (w9 s c).1:=by
 unfold w9;split
 ·exact n5 hp (O1 _ _ _)
 ·exact hp
theorem Fp:∀ (m c:Nat) {s:af} (ds:List aQ),dy s->dy (kR m c s ds).1
 | 0,_,_,_,h=>h
 | m+1,c,s,ds,h=>by
  simp only [kR];split
  ·exact Fp m _ _ (Ey h _)
  ·exact Ey h _
theorem NC (m:Int->Int) {b:aF} {t:aL} (he:fW b t=0):tot (ia b t).qs (wc m)=tot b.qs (wc m):=by
 unfold ia;rw [if_pos he];dsimp only;rw [OS m (I3 he).2.2.2.2,Qe];omega
theorem I2 (m:Int->Int) {b:aF} {n:Int} (he:eK b n=0):tot (dO b n).qs (wc m)=tot b.qs (wc m):=by
 unfold dO;rw [if_pos he];dsimp only;rw [OS m (oY he).2.2,Qe];omega
theorem MV {s:af} (h:s.right) (hp:dy s) (c:aZ) (he:(jr s c).2.2=0):dy (jr s c).1:=by
 unfold jr at he |-;split
 ·rename_i hk;rw [if_pos hk] at he;split
  ·rename_i ht;rw [if_pos ht] at he;intro x hx;dsimp only;rw [NC _ he];exact hp x hx
  ·exact hp
 rename_i hk;rw [if_neg hk] at he;split
 ·rename_i hk;rw [if_pos hk] at he;exact sE h hp (QV he).2
 rename_i hk;rw [if_neg hk] at he;split
 ·exact hp
 rename_i hf;rw [if_neg hf] at he;split
 case isFalse=>exact hp
 rename_i ha;rw [if_pos ha] at he;split
 ·rename_i hk;rw [if_pos hk] at he;intro x hx;dsimp only;rw [I2 _ he];exact hp x hx
 ·rename_i hk;rw [if_neg hk] at he;obtain ⟨e1,e2⟩:=vq he;intro x hx;dsimp only;unfold oH;rw [if_pos e1,NC _ e2,I2 _ e1];exact hp x hx
theorem Sz {s:af} (hp:dy s) (c:aZ):dy (rF s c).1:=by
 unfold rF;split
 case isFalse=>exact hp
 split
 case isFalse=>exact hp
 split
 ·exact hp
 split
 case isFalse=>exact hp
 split<;>exact hp
def rZ (c:Int) (d:aQ):Int:=if d.cur=c then d.cm else 0
theorem NW {f:Bool} {last:aQ}:∀ (l:List aQ) (s:Bool × aQ),
  (∀ d∈l,(f||jP last d)=true->(iI f last l s).1=true /\ ¬ jP d (iI f last l s).2=true)/\(s.1=true->(iI f last l s).1=true /\ ¬ jP s.2 (iI f last l s).2=true)
 | [],s=>⟨fun d hd=>(by cases hd),fun h=>⟨h,by rw [gI];simp only [iI];omega⟩⟩
 | x :: r,s=>by
  simp only [iI];obtain ⟨i1,i2⟩:=NW (f:=f) (last:=last) r (if C5 f last s x=true then (true,x) else s);constructor
  ·intro d hd hc;rcases List.mem_cons.1 hd with rfl | hd
   ·by_cases hb:C5 f last s d=true
    ·rw [if_pos hb] at i2 |-;exact i2 rfl
    ·rw [if_neg hb] at i2 |-;simp only [C5,hc,Bool.true_and,Bool.or_eq_true,Bool.not_eq_true',not_or] at hb;have h1:s.1=true:=by simpa using hb.1
     obtain ⟨j1,j2⟩:=i2 h1;refine ⟨j1,fun h=>?_⟩;have h2:=hb.2;rw [gI] at h j2 h2;omega
   ·exact i1 d hd hc
  ·intro hs
   by_cases hb:C5 f last s x=true
   ·rw [if_pos hb] at i2 |-;obtain ⟨j1,j2⟩:=i2 rfl;refine ⟨j1,fun h=>?_⟩;simp only [C5,hs,Bool.not_true,Bool.false_or,cr] at hb;have h2:=hb.2;dsimp only at j2;rw [gI] at h j2 h2;omega
   ·rw [if_neg hb] at i2 |-;exact i2 hs
theorem Qg (w c:Int) (l:List aQ):az (wo w c l)=tot l (fun d=>if d.who=w/\d.cur=c then d.cm else 0):=by
 induction l with
 | nil=>rfl
 | cons d r ih =>
  unfold wo at ih |-;rw [n6,ih,gx];congr 1;simp only [Ia,cr,beq_iff_eq]
theorem L3 {c:Int} {l:List aQ} (hl:qb l=true):∀ (n:Nat) (f:Bool) (last:aQ) (out:List aQ),OT f last l < n->(DC l n f last out).2=0->tot (DC l n f last out).1 (rZ c)=tot out (rZ c)+tot l (fun d=>if (f||jP last d)=true then rZ c d else 0)
 | 0,_,_,_,h,_=>by omega
 | n+1,f,last,out,hn,h=>by
  obtain ⟨hm1,hm2⟩:=NW (f:=f) (last:=last) l (false,.zero);have hmem:=Cq (f:=f) (last:=last) (l:=l) (s:=(false,.zero));simp only [DC] at h |-;obtain ⟨S,hS⟩:=aH (iI f last l (false,.zero));rw [<- hS] at h hm1 hmem |-;split
  ·rename_i hf;rw [if_pos hf] at h;split
   ·rename_i hg;rw [if_pos hg] at h
    obtain ⟨k1,k2⟩:S.2∈l/\(f||jP last S.2)=true:=by
     rcases hmem hf with e | e
     ·rw [e] at hf;cases hf
     ·exact e
    have hlt:=Ju k1 k2;rw [L3 hl n false S.2 _ (by omega) h,KS];have hgn:jF S.2.who S.2.cur l=az (wo S.2.who S.2.cur l):=by unfold jF;rw [if_pos hg]
    have e1:tot (Nz l S.2) (rZ c)=tot l (fun d=>if d.who=S.2.who/\d.cur=S.2.cur then rZ c d else 0):=by
     have e2:tot (Nz l S.2) (rZ c)=if S.2.cur=c then jF S.2.who S.2.cur l else 0:=by
      unfold Nz;split
      ·rename_i hz;have hz:jF S.2.who S.2.cur l=0:=by simpa using hz
       rw [hz];split<;>rfl
      ·simp only [tot,List.map_cons,List.map_nil,az,rZ];omega
     rw [e2,hgn,Qg]
     by_cases hc:S.2.cur=c
     ·rw [if_pos hc];refine cB fun d _=>?_
      by_cases hd:d.who=S.2.who/\d.cur=S.2.cur
      ·rw [if_pos hd,if_pos hd];unfold rZ;rw [if_pos (by rw [hd.2,hc])]
      ·rw [if_neg hd,if_neg hd]
     ·rw [if_neg hc,gR];intro d _
      by_cases hd:d.who=S.2.who/\d.cur=S.2.cur
      ·rw [if_pos hd];unfold rZ;rw [if_neg (by rw [hd.2];exact hc)]
      ·rw [if_neg hd]
    rw [e1,Int.add_assoc,<- iD];congr 1;refine cB fun d hd=>?_
    by_cases hq:(f||jP last d)=true
    ·rw [if_pos hq];have hmn:=(hm1 d hd hq).2
     by_cases he:d.who=S.2.who/\d.cur=S.2.cur
     ·rw [if_pos he,if_neg]
      ·omega
      ·rw [Bool.false_or,gI];omega
     ·rw [if_neg he,if_pos]
      ·omega
      ·rw [Bool.false_or,gI];rw [gI] at hmn;omega
    ·rw [if_neg hq]
     have hqf:f=false /\ ¬ jP last d=true:=by
      simp only [Bool.or_eq_true,not_or] at hq;exact ⟨by simpa using hq.1,hq.2⟩
     have k2:=k2;rw [hqf.1,Bool.false_or,gI] at k2;have h2:=hqf.2;rw [gI] at h2;rw [if_neg (by omega),if_neg (by rw [Bool.false_or,gI];omega)];rfl
   ·rename_i hg;rw [if_neg hg] at h;exact absurd h hg
  ·rename_i hf
   have:tot l (fun d=>if (f||jP last d)=true then rZ c d else 0)=0:=gR fun d hd=>by
    rw [if_neg];intro hq;exact hf (hm1 d hd hq).1
   rw [this];dsimp only;omega
theorem Qf {c:Int} {l:List aQ} (h:(jJ l).2=0):tot (jJ l).1 (rZ c)=tot l (rZ c):=by
 unfold jJ at h |-;split
 ·rename_i hm;rw [if_pos hm] at h
  rw [L3 hm _ _ _ _ (by
   have:OT true .zero l<=l.length:=List.countP_le_length
   omega) h]
  simp only [Bool.true_or,if_true];simp [tot,az]
 ·rename_i hm;rw [if_neg hm] at h;cases h
theorem Ji (c:Int):∀ l:List aQ,az (dR (qy c) (oQ l)) = -tot l (rZ c)
 | []=>rfl
 | d :: r=>by
  have ih:=Ji c r;unfold oQ at ih |-;rw [List.flatMap_cons,zW,ih,gx,mj,mj]
  have e1:¬ (aY.bB ⟨2,d.who,d.cur,d.cm⟩=qy c):=by
   intro e;have:=congrArg aD.kind e;cases this
  rw [if_neg e1]
  have e2:(aY.bB ⟨5,0,d.cur,-d.cm⟩=qy c) ↔ d.cur=c:=by
   simp [aY.bB,qy]
  simp only [e2,rZ,dR,pick,List.flatMap_nil,az];split<;>omega
theorem RQ {c:Int} (hc:0<=c/\c<=2) {l:List aQ} (h:rA l=0):az (dR (qy c) (oI l)) = -tot l (rZ c):=by
 unfold oI;rw [if_pos h];unfold rA at h;split at h
 case isFalse=>cases h
 split at h
 case isFalse hne=>exact absurd h hne
 rename_i hn;rw [BG (vZ hc) h,Ji,Qf hn]
theorem II {l:bz} {g:List aY} {e:Int} {a:aD} (ha:a∈gv) (h0:(fG l g e).2=0):e=0/\fj a (fG l g e).1.bs=fj a l.bs+az (dR a g):=by
 unfold fG at h0 |-;split
 ·rename_i hc;rw [if_pos hc] at h0;exact ⟨hc.1,PT h0 ha⟩
 ·rename_i hc;rw [if_neg hc] at h0;have h0:e=0:=h0
  have hg:g=[]:=by
   by_cases hg:g=[]
   ·exact hg
   ·exact absurd ⟨h0,hg⟩ hc
  rw [hg];exact ⟨h0,by simp [dR,pick,az]⟩
theorem Kk {s:af} (hp:dy s) (he:ig s=0):dy (jR s):=by
 unfold jR;rw [if_pos he];unfold ig at he;split at he
 case isFalse=>cases he
 rename_i h1;split at he
 case isFalse=>cases he
 split at he
 case isFalse hne=>exact absurd he hne
 rename_i h3;split at he
 case isFalse hne=>exact absurd he hne
 rename_i h4;have hr:=iN.1 h1;have h5:=(Qu h3).2.2;intro c hc;dsimp only;obtain ⟨p1,p2⟩:=II (vZ hc) (show (fG s.aW (oI (iS s)) (rA (iS s))).2=0 from he)
 have e1:fj (qy c) (Bd s).1.bs=fj (qy c) s.aW.bs + -tot (qA s.aj s.book) (rZ c):=by
  show fj (qy c) (fG s.aW (oI (iS s)) (rA (iS s))).1.bs=_
  rw [p2,RQ hc p1];congr 2;exact Qf h4
 have e2:∀ r2:aq,(∀ n,br s.aj n=true->mR r2 c n=mR s.aj c n)->tot (y6 s.aj s.book).qs (wc (mR r2 c))=tot s.book.qs (fun p=>mR s.aj c p.inst*(p.bg*ef (bf s.aj p.inst))):=fun r2 hm=>by
  unfold y6;rw [if_pos h3];dsimp only;rw [uC];refine cB fun p hpm=>?_
  have hi:=(FQ (h5 p hpm)).1;unfold nJ;split
  ·rename_i hz;simp only [cr,beq_iff_eq] at hz;rw [hz.2];simp [tot,az]
  ·simp only [tot,List.map_cons,List.map_nil,az,wc];rw [hm _ hi];omega
 have e3:tot (qA s.aj s.book) (rZ c)=tot s.book.qs (fun p=>mR s.aj c p.inst*(p.bg*ef (bf s.aj p.inst)) + -(wc (mR s.aj c) p)):=by
  unfold qA;rw [if_pos h3];unfold tot;rw [List.map_map];refine cB (L:=s.book.qs) fun p hpm=>?_
  have hi:=(FQ (h5 p hpm)).1
  show rZ c (Bh s.aj p)=_
  unfold rZ Bh mR wc gZ;simp only [mR,hi,Bool.true_and,beq_iff_eq]
  by_cases hcc:(bf s.aj p.inst).cur=c
  ·simp only [if_pos hcc];generalize (bf s.aj p.inst).mult=m;generalize ef (bf s.aj p.inst)=pr;have e:p.bg*(pr*m)=m*(p.bg*pr):=by rw [<- Int.mul_assoc,Int.mul_comm]
   have e':-p.cost*m = -(m*p.cost):=by rw [Int.neg_mul,Int.mul_comm]
   rw [e,e']
  ·simp only [if_neg hcc];simp
 rw [e1,e3,e2 _ (fun n hn=>Uc (LI hr.aj).2 hn c),iD]
 have e4:tot s.book.qs (fun p=>-(wc (mR s.aj c) p)) = -tot s.book.qs (wc (mR s.aj c)):=by
  have:=Xk s.book.qs (wc (mR s.aj c)) (-1);rw [show (fun p=>-(wc (mR s.aj c) p))=(fun p=>-1*wc (mR s.aj c) p) from funext fun p=>by omega,this];omega
 rw [e4];have:=hp c hc;omega
theorem MT:∀ (l:List aA) (x:aq × List aA),(∀ c∈l,bJ x.1 c.who≠0)->x.1.okB=true->(qY l x).1.ns=x.1.ns
 | [],_,_,_=>rfl
 | c :: r,x,h1,h2=>by
  have h:=vE h2 (h1 c (by simp)) (p:=2) (by omega);obtain ⟨p1,p2,p3,_⟩:=GY h;simp only [qY]
  rw [MT r _ (fun y hy=>by
   dsimp only;rw [p2];split
   ·decide
   ·exact h1 y (by simp [hy])) p1,p3]
theorem OQ {s:af} {n:Int} (hp:dy s) (he:oV s n=0):dy (gP s n):=by
 unfold gP;rw [if_pos he];unfold oV at he;split at he
 case isFalse=>cases he
 rename_i h1;have hr:=iN.1 h1
 have hns:=MT (nG (s.now+n) s.calls) (s.aj,s.calls) (fun c hc=>by
  obtain ⟨x,hx,hc⟩:=List.mem_flatMap.1 hc;split at hc
  ·obtain rfl:=List.mem_singleton.1 hc;have:=hr.known.cs _ hx;dsimp only;omega
  ·cases hc) hr.aj
 intro c hc;dsimp only;rw [X8 hns];exact hp c hc
theorem Qc {k c n all:Int} {ws gs:List Int} (hk:k≠5):pg (uv k c n all ws gs):=by
 unfold uv;split
 ·refine EP (Nl fun x hx=>?_);unfold Gh at hx;rcases List.mem_cons.1 hx with rfl | hx
  ·show (6:Int)≠5
   decide
  ·obtain ⟨i,_,hx⟩:=jv.1 hx;unfold vf at hx;obtain rfl:=List.mem_singleton.1 hx;exact hk
 ·intro _ _;rfl
theorem Wt (l:bz) (c n:Int) (ws:List Int):pg (CW l c n ws):=by
 unfold CW;split
 ·exact Qc (by decide)
 ·intro _ _;rfl
theorem Q1 (r:aq) (c n:Int) (ws:List Int):pg (qa r c n ws):=by
 unfold qa;split
 ·exact Qc (by decide)
 ·intro _ _;rfl
theorem We {s:af} {w:Int} {i:Nat} {gain:Int} {f:eY} {a b:Int} {c:Int} (hc:0<=c/\c<=2) (hg:bL gain=true) (h:(lJ s w i gain f a b).2.2=0):az (dR (qy c) (lJ s w i gain f a b).1)=if (i:Int)=c then -gain else 0:=by
 unfold lJ at h |-;split
 case isFalse hne=>rw [if_neg hne] at h;exact absurd h hne
 rename_i h1;rw [if_pos h1] at h;split
 case isFalse hne=>rw [if_neg hne] at h;exact absurd h hne
 rename_i h2;rw [if_pos h2] at h;split
 case isFalse hne=>rw [if_neg hne] at h;cases h
 rename_i h3;rw [if_pos h3] at h;dsimp only at h |-;rw [BG (vZ hc) h];unfold Oa VE;have hv:∀ (k1 w1 k2 w2 n:Int),k1≠5->k2≠5->az (dR (qy c) (bS ⟨k1,w1,i⟩ ⟨k2,w2,i⟩ n))=0:=fun k1 w1 k2 w2 n h1 h2=>oO h1 h2 c hc
 simp only [zW];rw [hv 1 0 2 w _ (by decide) (by decide),hv 6 0 2 w _ (by decide) (by decide),hv 2 w 6 0 _ (by decide) (by decide),hv 3 w 6 0 _ (by decide) (by decide),hv 4 0 6 0 _ (by decide) (by decide),hv 2 w 1 0 _ (by decide) (by decide),hv 3 w 1 0 _ (by decide) (by decide),Wt _ _ _ _ c hc,Q1 _ _ _ _ c hc,Rq hg];have e1:((⟨5,0,(i:Int)⟩:aD)=qy c) ↔ (i:Int)=c:=by simp [qy]
 have e2:¬ ((⟨2,w,(i:Int)⟩:aD)=qy c):=by simp [qy]
 rw [if_neg e2];simp only [e1];omega
theorem MK {s:af} {w c:Int} (hc:0<=c/\c<=2):∀ (m i:Nat) (l:bz) (p:List aQ),(nQ s w m i l p).2.2=0->fj (qy c) (nQ s w m i l p).1.bs=fj (qy c) l.bs+if (i:Int)<=c/\c < (i:Int)+m then -bO s w c.toNat else 0
 | 0,i,l,p,_=>by simp only [nQ];rw [if_neg (by omega)];omega
 | m+1,i,l,p,h=>by
  simp only [nQ] at h |-;split
  ·rename_i h0;rw [if_pos h0] at h;obtain ⟨p1,p2⟩:=II (vZ hc) h0;rw [MK hc m (i+1) _ _ h,p2];have hv:az (dR (qy c) (iO s w i).1)=if (i:Int)=c then -bO s w i else 0:=We hc (CJ _ _ _) p1
   rw [hv]
   by_cases hi:(i:Int)=c
   ·have:c.toNat=i:=by omega
    rw [this,if_pos hi,if_neg (by omega),if_pos (by omega)];omega
   ·rw [if_neg hi]
    by_cases hj:(i:Int) < c/\c < (i:Int)+(m+1:Nat)
    ·rw [if_pos (by omega),if_pos (by omega)];omega
    ·rw [if_neg (by omega),if_neg (by omega)];omega
  ·rename_i h0;rw [if_neg h0] at h;exact absurd h h0
theorem VY (m:Int->Int) (w:Int) (l:List aB):tot (nH w l) (wc m)+tot l (fun p=>if p.who=w then wc m p else 0)=tot l (wc m):=by
 unfold nH;rw [uC,<- iD];refine cB fun p _=>?_
 by_cases h:p.who=w
 ·rw [if_pos (by simpa using h),if_pos h];simp [tot,az]
 ·rw [if_neg (by simpa using h),if_neg h];simp [tot,az]
theorem QL {s:af} {w c:Int}:∀ {l:List aB},(∀ p∈l,br s.aj p.inst=true)->az (wo w c (pZ s w l)) = -tot l (fun p=>if p.who=w then wc (mR s.aj c) p else 0)
 | [],_=>rfl
 | p :: r,h=>by
  have ih:=QL (s:=s) (w:=w) (c:=c) (l:=r) fun q hq=>h q (by simp [hq])
  have hi:=h p (by simp);rw [Qg] at ih |-;unfold pZ at ih |-;rw [List.flatMap_cons,KS,ih,gx]
  have:tot (Oq s w p) (fun d=>if d.who=w/\d.cur=c then d.cm else 0) = -(if p.who=w then wc (mR s.aj c) p else 0):=by
   unfold Oq
   by_cases hw:p.who=w
   ·rw [if_pos (by simpa using hw),if_pos hw];simp only [tot,List.map_cons,List.map_nil,az,true_and,wc,mR,hi,Bool.true_and,beq_iff_eq,gZ];split
    ·generalize (bf s.aj p.inst).mult=m;rw [Int.zero_mul,Int.mul_zero,Int.neg_mul,Int.mul_comm p.cost m];omega
    ·simp
   ·rw [if_neg (by simpa using hw),if_neg hw];rfl
  rw [this];omega
theorem RV {s:af} {w:Int} (hp:dy s) (he:wP s w=0):dy (mu s w):=by
 unfold mu;rw [if_pos he];obtain ⟨e1,e2,_,e4⟩:=Ky he;obtain ⟨hm,hG⟩:=F7 e1;obtain ⟨h1,hs⟩:=vQ hm;have hr:=iN.1 h1;have hpz:=vE hr.aj (w:=w) (p:=3) (by omega) (by omega);obtain ⟨_,_,hns,_⟩:=GY hpz;have hw:=(KL hr.aj (w:=w) (by omega)).2;have hknow:=(K1 hr hw hs 8 0 rfl (b:=s.book) ⟨hr.book,hr.known,rfl⟩ (fun k hk=>by omega) hG).1.known;have hgA:=yL e2;intro c hc;dsimp only;rw [X8 hns,MK hc 3 0 s.aW [] e4,if_pos (by omega)];have hq:(pP s w).qs=nH w (mX s w 8 0 s.book).1.qs:=by unfold pP;rw [if_pos e1]
 have hd:rH s w=pZ s w (mX s w 8 0 s.book).1.qs:=by unfold rH;rw [if_pos e1]
 have hgE:lM w ((c.toNat:Nat):Int) (rH s w)=0:=hgA c.toNat (by omega) (by omega)
 have hgain:bO s w c.toNat = -tot (mX s w 8 0 s.book).1.qs (fun p=>if p.who=w then wc (mR s.aj c) p else 0):=by
  unfold bO jF;rw [if_pos hgE,hd,show ((c.toNat:Nat):Int)=c by omega];exact QL fun p hp=>(hknow.qs p hp).2
 have hk:=VY (mR s.aj c) w (mX s w 8 0 s.book).1.qs;have hwp:=P5 (mR s.aj c) (s:=s) (w:=w) 8 0 hG;have:=hp c hc;rw [hq,hgain];omega
theorem Kl {s:af} (hp:dy s) (he:iT s=0):dy (jz s):=by
 unfold jz;rw [if_pos he];exact hp
theorem Pt {s:af} (hp:dy s) (he:sV s=0):dy (th s):=by
 unfold th;rw [if_pos he];exact hp
theorem Nk {s:af} {c:aZ} (h:s.right) (hp:dy s) (he:(fD s c).2.1=0):dy (fD s c).1:=by
 revert he
 exact pL s c (P:=fun m=>m.2.1=0->dy m.1) (fun he=>sE h hp (MZ he).2) (fun he=>sE h hp (QX he).2) (fun he=>sE h hp (QH he).2) (fun _=>RT hp c) (fun _=>Lg hp c _) (fun _=>n5 hp (oO (by decide) (by decide)))
  (fun he=>MV h hp c he) (fun he=>Kk hp he) (fun he=>Kl hp he) (fun he=>Pt hp he) (fun he=>OQ hp he) (fun _=>Sz hp c) (fun he=>RV hp he) (fun _=>Fp 3 0 [] hp) (fun _ _ _=>hp)
theorem Rk {s:af} {c:aZ} (h:s.right) (hp:dy s):dy (wz s c).1:=by
 unfold wz;split
 ·exact hp
 show dy (aV s c).1
 unfold aV bF;split
 ·rename_i he;exact Nk h hp he
 ·exact hp
end Go.Proofs.YtnkobepdbkmedaaGreatDoor
