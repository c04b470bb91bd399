/- Right states: what a command makes of a state, and what follows. No theorem of a claim. -/
import Derived.Test.YtacacccbcndjoaaGreatKI
import Derived.Test.YtacacccbcndjoaaGreatKJ
set_option linter.unusedSimpArgs false
set_option linter.unusedVariables false
set_option maxHeartbeats 4000000
set_option maxRecDepth 16000
namespace Go.Proofs.YtacacccbcndjoaaGreat
open Go.Abs
theorem oP (s:af) (c:aY) {P:af × Int × Int × Int × List aN × List ck->Prop}
  (a1:P ({ s with aj:=jG s.aj c.who c.bX },iR s.aj c.who c.bX,0,0,[],[]))
  (a2:P ({ s with aj:=n6 s.aj (uS c) },mC s.aj (uS c),0,0,[],[]))
  (a3:P ({ s with aj:=nO s.aj ⟨c.no,c.cur,c.aR,c.bX⟩ },mu s.aj ⟨c.no,c.cur,c.aR,c.bX⟩,0,0,[],[]))
  (a4:P ((nJ s c).1,(nJ s c).2,0,0,[],[]))
  (a6:P ((jU s c (n9 c)).1,(jU s c (n9 c)).2,0,0,[],[]))
  (a9:P (kf s (bP ⟨1,0,c.cur⟩ ⟨4,0,c.cur⟩ c.bX),rV s (bP ⟨1,0,c.cur⟩ ⟨4,0,c.cur⟩ c.bX),0,0,[],[]))
  (a10:P ((iT s c).1,(iT s c).2.2,(iT s c).2.1,0,[],[]))
  (a14:P (jB s,gL s,0,0,oR s,[]))
  (a15:P (jg s,iC s,0,0,m9 s,[]))
  (a16:P (rA s,rL s,0,0,[],[]))
  (a17:P (cE s c.bX,dL s c.bX,0,0,jk s c.bX,[]))
  (a18:P ((qt s c).1,(qt s c).2,0,0,[],[]))
  (a19:P (lz s c.who,ur s c.who,0,0,G7 s c.who,He s c.who))
  (a20:P ((j0 3 0 s []).1,(j0 3 0 s []).2.2,0,0,(j0 3 0 s []).2.1,[]))
  (a0:∀ e v,P (s,e,0,v,[],[])):P (fk s c):=by
 unfold fk
 by_cases k0:c.kind=1
 ·rw [if_pos k0];exact a1
 rw [if_neg k0]
 by_cases k1:c.kind=2
 ·rw [if_pos k1];exact a2
 rw [if_neg k1]
 by_cases k2:c.kind=3
 ·rw [if_pos k2];exact a3
 rw [if_neg k2]
 by_cases k3:c.kind=4\/c.kind=5\/c.kind=8
 ·rw [if_pos k3];exact a4
 rw [if_neg k3]
 by_cases k4:c.kind=6\/c.kind=7
 ·rw [if_pos k4];exact a6
 rw [if_neg k4]
 by_cases k5:c.kind=9
 ·rw [if_pos k5];split
  ·exact a9
  ·exact a0 _ _
 rw [if_neg k5]
 by_cases k6:c.kind=10\/c.kind=11\/c.kind=12\/c.kind=13
 ·rw [if_pos k6];split
  ·exact a10
  ·exact a0 _ _
 rw [if_neg k6]
 by_cases k7:c.kind=14
 ·rw [if_pos k7];exact a14
 rw [if_neg k7]
 by_cases k8:c.kind=15
 ·rw [if_pos k8];exact a15
 rw [if_neg k8]
 by_cases k9:c.kind=16
 ·rw [if_pos k9];exact a16
 rw [if_neg k9]
 by_cases k10:c.kind=17
 ·rw [if_pos k10];exact a17
 rw [if_neg k10]
 by_cases k11:c.kind=18
 ·rw [if_pos k11];exact a18
 rw [if_neg k11]
 by_cases k12:c.kind=19
 ·rw [if_pos k12];exact a19
 rw [if_neg k12]
 by_cases k13:c.kind=20
 ·rw [if_pos k13];exact a20
 rw [if_neg k13]
 by_cases k14:c.kind=21
 ·rw [if_pos k14];split
  ·exact a0 _ _
  ·exact a0 _ _
 rw [if_neg k14]
 by_cases k15:c.kind=22
 ·rw [if_pos k15];split
  ·exact a0 _ _
  ·exact a0 _ _
 rw [if_neg k15];exact a0 _ _
theorem Jr {s:af} {c:aY} (h:s.right) (he:(fk s c).2.1=0):(fk s c).1.right:=by
 revert he
 exact oP s c (P:=fun m=>m.2.1=0->m.1.right) (fun he=>qT h (Jk he)) (fun he=>qT h (MD he)) (fun he=>qT h (M6 he)) (fun _=>Oo h c) (fun _=>HZ h c _) (fun _=>nA h _) (fun he=>JZ h c he)
  (fun he=>HP he) (fun he=>Hz he) (fun he=>Ml he) (fun he=>qZ he) (fun _=>NU h c) (fun he=>Pu he) (fun _=>CM 3 0 [] h) (fun _ _ _=>h)
theorem Ki {s:af} {c:aY} (h:s.right):(aQ s c).1.right:=by
 unfold aQ br;split
 ·rename_i he;exact Jr h he
 ·exact h
theorem FP:∀ (l:List Int) (lo hi:Int),l.Pairwise (fun a c=>a < c)->(∀ x∈l,lo<=x/\x < hi)->lo<=hi->(l.length:Int)<=hi-lo
 | [],lo,hi,_,_,h=>by simp;omega
 | x :: r,lo,hi,hp,hx,hlh=>by
  rw [List.pairwise_cons] at hp;have hx0:=hx x (by simp);have:=FP r (x+1) hi hp.2 (fun y hy=>by have:=hp.1 y hy;have:=hx y (by simp [hy]);omega) (by omega);simp only [List.length_cons];omega
theorem vm {A:Type} {xs:List A} (f:A->Int) (lo hi:Int) {R:A->A->Prop} (hp:xs.Pairwise R) (hf:∀ a∈xs,∀ b∈xs,R a b->f a < f b) (hx:∀ x∈xs,lo<=f x/\f x < hi) (h:lo<=hi):(xs.length:Int)<=hi-lo:=by
 have h1:(xs.map f).Pairwise (fun a c=>a < c):=by
  rw [List.pairwise_map];exact List.Pairwise.imp_of_mem (fun {p q} hp hq hpq=>hf p hp q hq hpq) hp
 have:=FP _ lo hi h1 (fun x hx'=>by
  obtain ⟨y,hy,rfl⟩:=List.mem_map.1 hx'
  exact hx y hy) h
 rwa [aI] at this
structure af.lens (s:af):Prop where
 ms:s.aj.ms.length<=16
 ns:s.aj.ns.length<=8
 xs:s.aj.xs.length<=6
 ts:s.book.ts.length<=128
 qs:s.book.qs.length<=128
 bs:s.bE.bs.length<=1000
 ps:s.ps.length<=1000
 calls:s.calls.length<=1000
 aT:s.aT.length<=32
 aM:s.aM.length<=8
theorem af.right.lens {s:af} (h:s.right):s.lens:=by
 obtain ⟨⟨o1,p1⟩,⟨o2,p2⟩,⟨o3,p3⟩⟩:=dB.1 h.aj;have hl:=nD.1 h.bE;have hg:=gM.1 h.ps;have hc:=nv.1 h.calls;have hs:=(oS (lt:=dD) qp).1 h.aM;refine ⟨?_,?_,?_,(eH.1 h.book).tl,BX h.book,?_,?_,?_,h.bl,?_⟩
 ·have:=vm ak.no 1 17 p1 (fun _ _ _ _ h=>h) (fun x hx=>by have:=ug (o1 x hx);omega) (by decide);omega
 ·have:=vm ay.no 1 9 p2 (fun _ _ _ _ h=>h) (fun x hx=>by have:=Ax (o2 x hx);omega) (by decide);omega
 ·have:=vm av.a 1 7 p3 (fun _ _ _ _ h=>h) (fun x hx=>by have:=AJ (o3 x hx);omega) (by decide);omega
 ·have hr:=fun b hb=>yx (yM h.bE b hb)
  have:=vm (fun b:bJ=>b.bK.kind*64+b.bK.who*3+b.bK.cur) 0 500 hl.2.1.2 (fun a ha b hb hab=>by
   have:=hr a ha;have:=hr b hb
   rw [mE] at hab;omega) (fun x hx=>by have:=hr x hx;omega) (by decide)
  omega
 ·have hr:∀ p∈s.ps,0<=p.key/\p.key < 500:=fun p hp=>by
   have:=lR.1 (hg.1 p hp).1;unfold eW.key;omega
  have:=vm eW.key 0 500 hg.2 (fun _ _ _ _ h=>h) hr (by decide);omega
 ·have hr:=fun b hb=>tL.1 (hc.1 b hb)
  have:=vm (fun b:au=>b.who*3+b.cur) 0 500 hc.2 (fun a ha b hb hab=>by
   have:=hr a ha;have:=hr b hb
   simp only [bN,Bool.or_eq_true,cg,decide_eq_true_eq,beq_iff_eq] at hab;omega) (fun x hx=>by have:=hr x hx;omega) (by decide)
  omega
 ·have hr:∀ x∈s.aM,1<=x.client/\x.client<=8:=fun x hx=>by
   have:=hs.1 x hx;simp only [ff,within,cg,decide_eq_true_eq] at this;omega
  have:=vm bu.client 1 9 hs.2 (fun a _ b _ hab=>by simpa [dD] using hab) (fun x hx=>by have:=hr x hx;omega) (by decide);omega
structure af.fY (s:af):Prop where
 right:s.right
 last:s.bE.last<=1099511627776
 fit:∀ x∈s.aM,x.r.fits
theorem MM {n:Int} (h:bS n=true):fy n:=by
 rw [cR] at h;exact ⟨by omega,by omega⟩
theorem af.right.dz {s:af} (h:s.right) (hla:s.bE.last<=1099511627776) (hf:∀ x∈s.aM,x.r.fits):s.dz:=by
 obtain ⟨⟨o1,p1⟩,⟨o2,p2⟩,⟨o3,p3⟩⟩:=dB.1 h.aj;have hb:=eH.1 h.book;have hl:=nD.1 h.bE;have hg:=gM.1 h.ps;have hc:=nv.1 h.calls;have hs:=(oS (lt:=dD) qp).1 h.aM;have hk:=h.Ii;have n0:=hb.n0;have n1:=hb.n1;refine ⟨⟨by omega,by omega⟩,⟨by omega,by omega⟩,⟨by omega,by omega⟩,fun x hx=>?_,fun x hx=>?_,fun x hx=>?_,⟨by omega,by omega⟩,fun x hx=>?_,fun x hx=>?_,?_,fun x hx=>?_,fun x hx=>RP (hg.1 x hx),fun x hx=>?_,fun x hx=>?_,fun x hx=>?_⟩
 ·have:=ug (o1 x hx);exact ⟨⟨by omega,by omega⟩,⟨by omega,by omega⟩,⟨by omega,by omega⟩⟩
 ·have:=o2 x hx;simp only [ay.ok,within,cg,decide_eq_true_eq] at this;have hsh:=fun j=>A0 (o2 x hx) j
  have h0:=hsh 0;have h1:=hsh 1;have h2:=hsh 2;have h3:=hsh 3;have h4:=hsh 4;have h5:=hsh 5;simp only [ay.sh] at h0 h1 h2 h3 h4 h5;exact ⟨⟨by omega,by omega⟩,⟨by omega,by omega⟩,⟨by omega,by omega⟩,⟨by omega,by omega⟩,⟨by omega,by omega⟩,⟨by omega,by omega⟩,⟨by omega,by omega⟩,⟨by omega,by omega⟩,⟨by omega,by omega⟩,⟨by omega,by omega⟩,⟨by omega,by omega⟩,⟨by omega,by omega⟩⟩
 ·have:=o3 x hx;simp only [av.ok,within,cg,decide_eq_true_eq] at this;exact ⟨⟨by omega,by omega⟩,⟨by omega,by omega⟩,⟨by omega,by omega⟩,⟨by omega,by omega⟩⟩
 ·have:=hb.tok x hx;simp only [eR,aL.okB,ot,within,cg,Bool.not_eq_true',decide_eq_false_iff_not,decide_eq_true_eq] at this;exact ⟨⟨by omega,by omega⟩,⟨by omega,by omega⟩,⟨by omega,by omega⟩,⟨by omega,by omega⟩,⟨by omega,by omega⟩,⟨by omega,by omega⟩⟩
 ·have:=ld.1 (hb.ok x hx);exact ⟨⟨by omega,by omega⟩,⟨by omega,by omega⟩,⟨by omega,by omega⟩,MM this.2.2.2.1⟩
 ·exact ⟨by omega,by omega⟩
 ·have h1:=yx (yM h.bE x hx);have h2:=hl.2.1.1 x hx;simp only [kB,cg] at h2;simp only [bJ.bK] at h1;exact ⟨⟨by omega,by omega⟩,⟨by omega,by omega⟩,⟨by omega,by omega⟩,MM h2.2.1⟩
 ·have:=tL.1 (hc.1 x hx);exact ⟨⟨by omega,by omega⟩,⟨by omega,by omega⟩,⟨by omega,by omega⟩,⟨by omega,by omega⟩⟩
 ·have:=h.aT x hx;simp only [j5,ot,within,cg,decide_eq_true_eq] at this;exact ⟨⟨by omega,by omega⟩,⟨by omega,by omega⟩,⟨by omega,by omega⟩,⟨by omega,by omega⟩,⟨by omega,by omega⟩⟩
 ·have:=hs.1 x hx;simp only [ff,within,cg,decide_eq_true_eq] at this;exact ⟨⟨by omega,by omega⟩,⟨by omega,by omega⟩,trivial,trivial,trivial,trivial,trivial,hf x hx⟩
theorem af.fY.good {s:af} (h:s.fY):s.good:=by
 have l:=h.right.lens;have h1:=l.ms;have h2:=l.ns;have h3:=l.xs;have h4:=l.ts;have h5:=l.qs;have h6:=l.bs;have h7:=l.ps;have h8:=l.calls;have h9:=l.aT;have h10:=l.aM;exact ⟨⟨⟨by omega,by omega,by omega⟩,⟨by omega,by omega⟩,by omega,by omega,by omega,by omega,by omega,h.fit⟩,h.right.dz h.last h.fit,by omega,by omega,by omega,by omega,by omega⟩
def bn.lo (l:bn):Prop:=l.last<=1099511627776
theorem IX {l:bn} {id:Int} {g:List aS} (h:eO l id g=0):(gH l id g).lo:=by
 unfold gH;rw [if_pos h];exact (Jz h).2.1.2
theorem yH {s:af} (g:List aS) (h:s.bE.lo):(kf s g).bE.lo:=by
 unfold kf;split
 ·rename_i he;exact IX he
 ·exact h
theorem Fl {l:bn} {g:List aS} {e:Int} (h:l.lo) (h0:(fB l g e).2=0):(fB l g e).1.lo:=by
 unfold fB at h0 |-;split
 ·rename_i hc;rw [if_pos hc] at h0;exact IX h0
 ·exact h
theorem Nr {s:af} {w:Int}:∀ (m i:Nat) (l:bn) (p:List aN),l.lo->(nh s w m i l p).2.2=0->(nh s w m i l p).1.lo
 | 0,_,_,_,h,_=>h
 | m+1,i,l,p,h,he=>by
  simp only [nh] at he |-;split
  ·rename_i h0;rw [if_pos h0] at he;exact Nr m _ _ _ (Fl h h0) he
  ·rename_i h0;rw [if_neg h0] at he;exact absurd he h0
theorem Np {s:af} (h:s.bE.lo) (c:Int):(uo s c).1.bE.lo:=by
 unfold uo;split
 ·exact yH _ h
 ·exact h
theorem Mw:∀ (m c:Nat) {s:af} (ds:List aN),s.bE.lo->(j0 m c s ds).1.bE.lo
 | 0,_,_,_,h=>h
 | m+1,c,s,ds,h=>by
  simp only [j0];split
  ·exact Mw m _ _ (Np h _)
  ·exact Np h _
theorem VR {s:af} (h:s.bE.lo) (c:aY):(nJ s c).1.bE.lo:=by
 unfold nJ;split
 case isFalse=>exact h
 split
 case isFalse=>exact h
 split
 ·exact yH _ h
 split
 ·split
  ·exact yH (s:=s) _ h
  ·exact yH _ h
 ·exact yH _ h
theorem O9 {s:af} (h:s.bE.lo) (c:aY) (n:Int):(jU s c n).1.bE.lo:=by
 unfold jU;split
 case isFalse=>exact h
 split
 case isFalse=>exact h
 split
 case isFalse=>exact h
 split
 case isFalse=>exact h
 split
 ·exact h
 split
 ·exact h
 ·exact h
theorem Rr {s:af} (h:s.bE.lo) (c:aY):(iT s c).1.bE.lo:=by
 unfold iT;split
 ·split<;>exact h
 split
 ·exact h
 split
 ·exact h
 split
 ·split<;>exact h
 ·exact h
theorem Xz {s:af} (h:s.bE.lo) (c:aY):(qt s c).1.bE.lo:=by
 unfold qt;split
 case isFalse=>exact h
 split
 case isFalse=>exact h
 split
 ·exact h
 split
 case isFalse=>exact h
 split<;>exact h
theorem O0 {s:af} (h:s.bE.lo) (he:gL s=0):(jB s).bE.lo:=by
 unfold jB;rw [if_pos he];unfold gL at he;split at he
 case isFalse=>cases he
 split at he
 case isFalse=>cases he
 split at he
 case isFalse hne=>exact absurd he hne
 split at he
 case isFalse hne=>exact absurd he hne
 exact Fl (l:=s.bE) h he
theorem Px {s:af} (h:s.bE.lo) (he:iC s=0):(jg s).bE.lo:=by
 unfold jg;rw [if_pos he];exact h
theorem SG {s:af} (h:s.bE.lo) (he:rL s=0):(rA s).bE.lo:=by
 unfold rA;rw [if_pos he];exact h
theorem Sr {s:af} {n:Int} (h:s.bE.lo) (he:dL s n=0):(cE s n).bE.lo:=by
 unfold cE;rw [if_pos he];exact h
theorem Vz {s:af} {w:Int} (h:s.bE.lo) (he:ur s w=0):(lz s w).bE.lo:=by
 unfold lz;rw [if_pos he];exact Nr 3 0 s.bE [] h (HW he).2.2.2
theorem Qm {s:af} {c:aY} (h:s.bE.lo) (he:(fk s c).2.1=0):(fk s c).1.bE.lo:=by
 revert he
 exact oP s c (P:=fun m=>m.2.1=0->m.1.bE.lo) (fun _=>h) (fun _=>h) (fun _=>h) (fun _=>VR h c) (fun _=>O9 h c _) (fun _=>yH _ h) (fun _=>Rr h c)
  (fun he=>O0 h he) (fun he=>Px h he) (fun he=>SG h he) (fun he=>Sr h he) (fun _=>Xz h c) (fun he=>Vz h he) (fun _=>Mw 3 0 [] h) (fun _ _ _=>h)
theorem KF {s:af} {w:Int}:∀ (m c:Nat) (x:List au × List aN),(nM s w m c x).1.2.length<=x.2.length+m
 | 0,_,_=>Nat.le_refl _
 | m+1,c,x=>by
  simp only [nM];split
  ·refine Nat.le_trans (KF m _ _) ?_;simp only [List.length_append];have:(mO w c (Rm s w c)).length<=1:=by unfold mO;split<;>simp
   omega
  ·dsimp only;omega
theorem Ft {s:af}:∀ (ws:List Int) (x:List au × List aN),(ry s ws x).1.2.length<=x.2.length+3*ws.length
 | [],_=>Nat.le_refl _
 | w :: r,x=>by
  have h1:=KF (s:=s) (w:=w) 3 0 x;simp only [ry,List.length_cons];split
  ·have h2:=Ft (s:=s) r (nM s w 3 0 x).1;omega
  ·omega
theorem M5 {s:af} {w:Int}:∀ (m i:Nat) (l:bn) (p:List aN),(nh s w m i l p).2.1.length<=p.length+m
 | 0,_,_,_=>Nat.le_refl _
 | m+1,i,l,p=>by
  simp only [nh];split
  ·refine Nat.le_trans (M5 m _ _ _) ?_;simp only [List.length_append];have:(mO w i (iw s w i).2.1).length<=1:=by unfold mO;split<;>simp
   omega
  ·dsimp only;omega
theorem Ph (s:af) (c:Int):(uo s c).1.aj=s.aj:=by
 unfold uo kf;split
 ·split<;>rfl
 ·rfl
theorem NI:∀ (m c:Nat) (s:af) (ds:List aN),(j0 m c s ds).2.1.length<=ds.length+m*s.aj.ms.length
 | 0,_,_,_=>by simp [j0]
 | m+1,c,s,ds=>by
  simp only [j0];split
  ·refine Nat.le_trans (NI m _ _ _) ?_;rw [Ph];have:=zA s.bE s.aj c;simp only [List.length_append,Nat.succ_mul];omega
  ·simp
theorem IG {s:af} (h:s.lens):(oR s).length<=1000:=by
 have hq:=h.qs;unfold oR iD;split
 ·have:=(HA (oZ s.aj s.book)).2;have:(oZ s.aj s.book).length<=s.book.qs.length:=by unfold oZ;split<;>simp
  omega
 ·simp
theorem I5 {s:af} (h:s.lens):(m9 s).length<=1000:=by
 have hm:=h.ms;unfold m9 Oa;split
 ·have h1:=Ft (s:=s) (mN s.aj [1]) (s.calls,[]);have h2:(mN s.aj [1]).length<=s.aj.ms.length:=bY _ _ _;simp only [List.length_nil] at h1;omega
 ·simp
theorem O1 {s:af} (n:Int) (h:s.lens):(jk s n).length<=1000:=by
 have hc:=h.calls;unfold jk;split
 ·rw [aI];have:=FN (s.now+n) s.calls;omega
 ·simp
theorem Qg {s:af} (w:Int):(G7 s w).length<=1000:=by
 unfold G7;split
 ·have:=M5 (s:=s) (w:=w) 3 0 s.bE [];simp only [List.length_nil] at this;omega
 ·simp
theorem RO {s:af} (w:Int):(He s w).length<=1000:=by
 unfold He;split
 ·rw [oM];omega
 ·simp
theorem DL {s:af} (h:s.lens):(j0 3 0 s []).2.1.length<=1000:=by
 have hm:=h.ms;have:=NI 3 0 s [];simp only [List.length_nil] at this;omega
theorem Fk {s:af} {c:aY} (h:s.lens):(fk s c).2.2.2.2.1.length<=1000/\(fk s c).2.2.2.2.2.length<=1000:=by
 have z:([]:List aN).length<=1000/\([]:List ck).length<=1000:=⟨Nat.zero_le _,Nat.zero_le _⟩
 exact oP s c (P:=fun m=>m.2.2.2.2.1.length<=1000/\m.2.2.2.2.2.length<=1000) z z z z z z z ⟨IG h,z.2⟩ ⟨I5 h,z.2⟩ z ⟨O1 _ h,z.2⟩ z ⟨Qg _,RO _⟩ ⟨DL h,z.2⟩ (fun _ _=>z)
theorem B1 {s:af} {c:aY} (h:s.lens):(aQ s c).2.fits:=by
 have hl:=Fk (c:=c) h;unfold aQ br;split
 ·simp only [aW.fits];omega
 ·simp [aW.fits,aW.err]
theorem La {s:af} {c:aY} (h:s.fY):(aQ s c).1.right/\(aQ s c).1.bE.lo:=by
 refine ⟨Ki h.right,?_⟩;unfold aQ br;split
 ·rename_i he;exact Qm h.last he
 ·exact h.last
def oa (s:af) (c:aY) (r:aW) (i:Nat):List bu:=
 if (i:Int)+1=c.client then [⟨(i:Int)+1,c.seq,r⟩] else if 0<=gr ((i:Int)+1) s.aM 0 then [kK s (gr ((i:Int)+1) s.aM 0)] else []
def tv (s:af) (c:aY):af × aW:=if (lD s c).2 then (s,(lD s c).1) else ({ (aQ s c).1 with aM:=oq (oa s c (aQ s c).2) 8 },(aQ s c).2)
theorem Bt (n:Int):∀ (l:List bu) (k:Int),0<=k->0<=gr n l k->∃ (j:Nat) (h:j < l.length),gr n l k=k+j/\l[j].client=n
 | [],k,_,h=>by simp [gr] at h
 | x :: r,k,hk,h=>by
  simp only [gr] at h |-;split
  ·rename_i hx;exact ⟨0,by simp,by simp,by simpa using hx⟩
  ·rename_i hx;rw [if_neg hx] at h;obtain ⟨j,h1,h2,h3⟩:=Bt n r (k+1) (by omega) h;exact ⟨j+1,by simp;omega,by rw [h2];omega,by simpa using h3⟩
theorem vP {s:af} {n:Int} (h:0<=gr n s.aM 0):kK s (gr n s.aM 0)∈s.aM/\(kK s (gr n s.aM 0)).client=n:=by
 obtain ⟨j,hj,e,hc⟩:=Bt n s.aM 0 (by omega) h;unfold kK;rw [e,Int.zero_add,Int.toNat_natCast,List.getD_eq_getElem?_getD,List.getElem?_eq_getElem hj];exact ⟨List.getElem_mem hj,hc⟩
theorem MC {x:bu}:ff x=true ↔ (1<=x.client/\x.client<=8)/\1<=x.seq/\x.seq<=1099511627776:=by
 simp only [ff,within,cg,decide_eq_true_eq]
theorem Jw {c:aY} (h:w5 c=0):(1<=c.kind/\c.kind<=22)/\1<=c.client/\c.client<=8:=by
 unfold w5 at h;split at h
 case isFalse=>cases h
 rename_i h1;split at h
 case isFalse=>cases h
 split at h
 case isFalse=>cases h
 split at h
 case isFalse=>cases h
 rename_i h2;simp only [within,cg,decide_eq_true_eq] at h1 h2;exact ⟨h1,h2⟩
theorem BP {c:aY} {last:Int} (h:(xP c last).2=false) (hl:0<=last/\last<=1099511627776):c.seq=last+1/\c.seq<=1099511627776:=by
 unfold xP at h;split at h
 case isFalse=>cases h
 rename_i h1;split at h
 ·cases h
 rename_i h2;rw [bz (by omega) (by omega)] at h1;omega
theorem Kb {s:af} {c:aY} (hs:s.right) (h:(lD s c).2=false):w5 c=0/\1<=c.seq/\c.seq<=1099511627776:=by
 have hse:=(oS (lt:=dD) qp).1 hs.aM;unfold lD at h;split at h
 case isFalse=>cases h
 rename_i h1;split at h
 ·rename_i h2;have hm:=MC.1 (hse.1 _ (vP h2).1);split at h
  ·cases h
  split at h
  ·cases h
  have:=BP h (by omega);exact ⟨h1,by omega,this.2⟩
 ·have:=BP h (by omega);exact ⟨h1,by omega,this.2⟩
theorem y8 (s:af) (c:aY) (hs:s.fY):∀ i,i < 8->∀ x∈oa s c (aQ s c).2 i,x.client=(i:Int)+1/\(x∈s.aM\/x=⟨c.client,c.seq,(aQ s c).2⟩):=by
 intro i hi x hx;unfold oa at hx;split at hx
 ·rename_i h;obtain rfl:=List.mem_singleton.1 hx;exact ⟨rfl,.inr (by rw [h])⟩
 ·split at hx
  ·rename_i h;obtain rfl:=List.mem_singleton.1 hx;exact ⟨(vP h).2,.inl (vP h).1⟩
  ·cases hx
theorem Ra {s:af} {c:aY} (h:s.fY):(tv s c).1.fY:=by
 unfold tv;split
 ·exact h
 rename_i hk;obtain ⟨f,k1,k2⟩:=Kb h.right (by simpa using hk);obtain ⟨d1,d2⟩:=La (c:=c) h;have hS:=y8 s c h;have hse:=(oS (lt:=dD) qp).1 h.right.aM;have hfit:=B1 (c:=c) h.right.lens;have hcl:=Jw f;refine ⟨⟨d1.Ii,d1.aj,d1.book,d1.bE,d1.ps,d1.calls,d1.known,d1.bl,d1.aT,(oS (lt:=dD) qp).2 ⟨fun x hx=>?_,?_⟩⟩,d2,fun x hx=>?_⟩
 ·obtain ⟨i,hi,hx⟩:=iB.1 hx;rcases (hS i hi x hx).2 with hx | rfl
  ·exact hse.1 x hx
  ·rw [MC];dsimp only;omega
 ·refine qS (fun i hi=>tg ?_) fun i j hij hj x hx y hy=>?_
  ·unfold oa;split;simp;split<;>simp
  ·have h1:=(hS i (by omega) x hx).1;have h2:=(hS j hj y hy).1;simp only [dD,decide_eq_true_eq];omega
 ·obtain ⟨i,hi,hx⟩:=iB.1 hx;rcases (hS i hi x hx).2 with hx | rfl
  ·exact h.fit x hx
  ·exact hfit
theorem Ov:af.zero.fY:=⟨eg.1 rfl,by decide,fun x hx=>by cases hx⟩
def oU (c:Int):aJ:=⟨5,0,c⟩
theorem tW {c:Int} (h:0<=c/\c<=2):oU c∈gE:=by
 rw [xu];unfold oU aJ.right;rw [if_neg (by dsimp only;omega)];rfl
theorem LK {a x:aJ} {n:Int} (h:x≠a) (r:List bJ):gG a (pX x n++r)=gG a r:=by
 unfold pX;split
 ·rfl
 ·simp only [List.cons_append,List.nil_append,gG];rw [if_neg];intro hb;exact h (wU.1 hb)
theorem My {a:aJ} (S:aJ->Int):∀ {L:List aJ},L.Pairwise (fun x y=>x.less y=true)->a∈L->gG a (L.flatMap fun x=>pX x (S x))=S a
 | [],_,h=>by cases h
 | x :: r,hp,h=>by
  rw [List.pairwise_cons] at hp;rw [List.flatMap_cons]
  by_cases hx:x=a
  ·subst hx;unfold pX;split
   ·rename_i hz;have hz:S x=0:=by simpa using hz
    rw [hz,List.nil_append,CJ];intro b hb hba;obtain ⟨y,hy,hb⟩:=List.mem_flatMap.1 hb;split at hb
    ·cases hb
    ·obtain rfl:=List.mem_singleton.1 hb;have:y=x:=hba;have hl:=hp.1 y hy;rw [this] at hl;exact sA hl
   ·simp only [List.cons_append,List.nil_append,gG];rw [if_pos (show V1 x ⟨x.kind,x.who,x.cur,S x⟩=true from wU.2 rfl)]
  ·rw [LK hx];rcases List.mem_cons.1 h with h | h
   ·exact absurd h.symm hx
   ·exact My S hp.2 h
theorem MT {l:bn} {id:Int} {g:List aS} {a:aJ} (h:eO l id g=0) (ha:a∈gE):gG a (gH l id g).bs=gG a l.bs+aC (dM a g):=by
 unfold gH;rw [if_pos h];exact My (mI l g) wR ha
theorem xI (a:aJ) (g k:List aS):aC (dM a (g++k))=aC (dM a g)+aC (dM a k):=by
 simp only [dM,pick,List.flatMap_append,eT]
theorem qn {a:aJ}:∀ {g:List aS},(∀ x∈g,x.bK≠a)->aC (dM a g)=0
 | [],_=>rfl
 | x :: r,h=>by
  rw [lS,if_neg (h x (by simp)),qn fun y hy=>h y (by simp [hy])];rfl
theorem xY {a:aJ} {g:List aS} (ha:a∈gE) (h:mX g=0):aC (dM a (iY g))=aC (dM a g):=by
 unfold iY;rw [if_pos h];unfold xy
 have key:∀ {L:List aJ},L.Pairwise (fun x y=>x.less y=true)->a∈L->aC (dM a (L.flatMap fun x=>Cq x (aC (dM x g))))=aC (dM a g):=by
  intro L
  induction L with
  | nil=>intro _ h;cases h
  | cons x r ih =>
   intro hp hm;rw [List.pairwise_cons] at hp;rw [List.flatMap_cons,xI]
   have hN:∀ y:aJ,∀ z∈Cq y (aC (dM y g)),z.bK=y:=fun y z hz=>by
    unfold Cq at hz;split at hz
    ·cases hz
    ·obtain rfl:=List.mem_singleton.1 hz;rfl
   by_cases hx:x=a
   ·subst hx
    rw [qn (g:=r.flatMap _) (fun z hz hza=>by
     obtain ⟨y,hy,hz⟩:=List.mem_flatMap.1 hz;have:=hN y z hz;have hl:=hp.1 y hy;rw [<- this,hza] at hl
     exact sA hl)]
    unfold Cq;split
    ·rename_i hz;have hz:aC (dM x g)=0:=by simpa using hz
     rw [hz];rfl
    ·rw [lS,if_pos (show aS.bK ⟨x.kind,x.who,x.cur,aC (dM x g)⟩=x from rfl)];simp [dM,pick,aC]
   ·rw [qn (g:=Cq x _) (fun z hz hza=>hx (by rw [<- hN x z hz];exact hza))];rcases List.mem_cons.1 hm with h | h
    ·exact absurd h.symm hx
    ·rw [ih hp.2 h];omega
 exact key wR ha
theorem NQ {a x y:aJ} {n:Int} (hn:bS n=true):aC (dM a (bP x y n))=(if x=a then -n else 0)+(if y=a then n else 0):=by
 unfold bP;rw [hn,if_pos rfl,lS,lS]
 show (if x=a then -n else 0)+((if y=a then n else 0)+0)=_
 omega
theorem Mr {x y:aJ} {n:Int} {k:aS} (h:k∈bP x y n):k.bK=x\/k.bK=y:=by
 unfold bP at h;simp only [List.mem_cons,List.not_mem_nil,or_false] at h;rcases h with rfl | rfl
 ·exact .inl rfl
 ·exact .inr rfl
theorem RL {a x y:aJ} {n:Int} (h1:x≠a) (h2:y≠a):aC (dM a (bP x y n))=0:=
 qn fun k hk=>by rcases Mr hk with e | e<;>rw [e]<;>assumption
theorem H6 {A:Type} (l m:List A) (F:A->Int):tot (l++m) F=tot l F+tot m F:=by
 simp only [tot,List.map_append,eT]
theorem sY {A B:Type} (f:A->List B) (F:B->Int) (L:List A):tot (L.flatMap f) F=tot L (fun a=>tot (f a) F):=by
 induction L with
 | nil=>rfl
 | cons x r ih=>rw [List.flatMap_cons,H6,ih];rfl
theorem TZ {A:Type} (L:List A) (F:A->Int) (m:Int):tot L (fun a=>m*F a)=m*tot L F:=by
 induction L with
 | nil=>simp [tot,aC]
 | cons x r ih=>rw [fU,fU,ih,Int.mul_add]
def wc (m:Int->Int) (p:aA):Int:=m p.inst*p.cost
theorem V7 (m:Int->Int) (b:aG) (g:List aA) (w n:Int):tot (EJ b g w n) (wc m)=m n*RM b g w n:=by
 unfold EJ;split
 ·rename_i h;simp only [cg,beq_iff_eq] at h;rw [h.2];simp [tot,aC]
 ·simp [tot,aC,wc]
theorem afd {n v:Int} {m:Int->Int} (h:1<=n/\n<=8):tot (List.range 8) (fun j=>if n=(j:Int)+1 then m ((j:Int)+1)*v else 0)=m n*v:=by
 rw [wq (B6 8) (x:=(n-1).toNat) (List.mem_range.2 (by omega))]
 ·rw [if_pos (by omega),show (((n-1).toNat:Nat):Int)+1=n by omega]
 ·intro a ha;rw [if_neg (by omega)]
theorem RE {m:Int->Int} {p:aA} (h1:1<=p.who/\p.who<=16) (h2:1<=p.inst/\p.inst<=8):tot (List.range 16) (fun k=>tot (List.range 8) (fun j=>if p.who=(k:Int)+1 then (if p.inst=(j:Int)+1 then m ((j:Int)+1)*p.cost else 0) else 0))=wc m p:=by
 have e:∀ k∈List.range 16,tot (List.range 8) (fun j=>if p.who=(k:Int)+1 then (if p.inst=(j:Int)+1 then m ((j:Int)+1)*p.cost else 0) else 0)=if p.who=(k:Int)+1 then wc m p else 0:=fun k _=>by
  by_cases hw:p.who=(k:Int)+1
  ·simp only [if_pos hw];exact afd h2
  ·simp only [if_neg hw];exact gw fun _ _=>rfl
 rw [ct e,Qy h1]
theorem UT (m:Int->Int):∀ {qs:List aA},(∀ p∈qs,(1<=p.who/\p.who<=16)/\1<=p.inst/\p.inst<=8)->qs.Pairwise (fun x y=>fQ x y=true)->tot (List.range 16) (fun k=>tot (List.range 8) (fun j=>m ((j:Int)+1)*(posOf ((k:Int)+1) ((j:Int)+1) qs).cost))=tot qs (wc m)
 | [],_,_=>by
  refine gw fun a _=>gw fun b _=>?_
  simp [posOf]
 | p :: r,h1,h2=>by
  rw [List.pairwise_cons] at h2;rw [fU,<- UT m (fun x hx=>h1 x (by simp [hx])) h2.2,<- RE (m:=m) (h1 p (by simp)).1 (h1 p (by simp)).2,<- gW];refine ct fun k _=>?_
  rw [<- gW];refine ct fun j _=>?_
  simp only [posOf]
  by_cases hw:p.who=(k:Int)+1
  ·rw [if_pos hw]
   by_cases hn:p.inst=(j:Int)+1
   ·rw [if_pos hn,if_pos (eJ.2 ⟨hw,hn⟩)];rw [lP (qs:=r)]
    ·simp
    ·intro x hx hk;have:=h2.1 x hx;simp only [fQ,DA,Bool.or_eq_true,cg,decide_eq_true_eq,beq_iff_eq] at this;omega
   ·rw [if_neg hn,if_neg (fun h=>hn (eJ.1 h).2)];omega
  ·rw [if_neg hw,if_neg (fun h=>hw (eJ.1 h).1)];omega
theorem acy (m:Int->Int):∀ {g:List aA},(∀ p∈g,(1<=p.who/\p.who<=16)/\1<=p.inst/\p.inst<=8)->tot (List.range 16) (fun k=>tot (List.range 8) (fun j=>m ((j:Int)+1)*aC (pick (dP ((k:Int)+1) ((j:Int)+1)) aA.cost g)))=tot g (wc m)
 | [],_=>by
  refine gw fun a _=>gw fun b _=>?_
  simp [pick,aC]
 | p :: r,h1=>by
  rw [fU,<- acy m (fun x hx=>h1 x (by simp [hx])),<- RE (m:=m) (h1 p (by simp)).1 (h1 p (by simp)).2,<- gW];refine ct fun k _=>?_
  rw [<- gW];refine ct fun j _=>?_
  rw [nw,Int.mul_add];congr 1
  by_cases hw:p.who=(k:Int)+1
  ·rw [if_pos hw]
   by_cases hn:p.inst=(j:Int)+1
   ·rw [if_pos (eJ.2 ⟨hw,hn⟩),if_pos hn]
   ·rw [if_neg (fun h=>hn (eJ.1 h).2),if_neg hn];simp
  ·rw [if_neg hw,if_neg (fun h=>hw (eJ.1 h).1)];simp
theorem Mp (m:Int->Int) {b:aG} {g:List aA} (h:jq b g=0):tot (vS b g 16) (wc m)=tot b.qs (wc m)+tot g (wc m):=by
 obtain ⟨h1,_,_⟩:=tG h;have hb:=eH.1 (kN h).1;unfold vS;rw [sY,<- UT m (fun p hp=>⟨(ld.1 (hb.ok p hp)).1,(ld.1 (hb.ok p hp)).2.1⟩) hb.pw,<- acy m (fun p hp=>Mv (List.all_eq_true.1 h1 p hp)),<- gW];refine ct fun k _=>?_
 unfold K1;rw [sY,<- gW];refine ct fun j _=>?_
 rw [V7,<- Int.mul_add];rfl
theorem NJ (m:Int->Int) (t:aL) (b:Bool):tot (fX t b) (wc m)=0:=by
 unfold fX;split
 ·simp only [tot,List.map_cons,List.map_nil,aC,wc,Int.neg_mul,Int.mul_neg];omega
 ·rfl
theorem SY (m:Int->Int) (w n:Int) (long:Bool) (f:List dO):tot (f.flatMap (uk w n long)) (wc m)=0:=by
 rw [sY];refine gw fun x _=>?_
 simp only [uk,tot,List.map_cons,List.map_nil,aC,wc,Int.mul_neg];omega
theorem BQ (m:Int->Int) {b:aG} {w n:Int} {long:Bool} {f:List dO} (h:(mq b w n long f).2=0):tot (mq b w n long f).1.qs (wc m)=tot b.qs (wc m):=by
 unfold mq at h |-;split
 case isFalse=>rfl
 rename_i he;rw [if_pos he] at h;dsimp only at h |-;rw [(kN h).2]
 show tot (vS b (kg w n long f) 16) (wc m)=_
 rw [Mp m h,show kg w n long f=f.flatMap (uk w n long) from by unfold kg;rw [if_pos he],SY];omega
theorem QN (m:Int->Int) {b:aG} {w n p rest:Int} {long:Bool} (h:(pS b w n p long rest).2=0):tot (pS b w n p long rest).1.qs (wc m)=tot b.qs (wc m):=by
 unfold pS at h |-;split
 case isFalse=>rfl
 rename_i he;rw [if_pos he] at h;exact BQ m h
theorem K8 (m:Int->Int) {s:af} {b:aG} {w n:Int} (h:(gT s w b n).2=0):tot (gT s w b n).1.qs (wc m)=tot b.qs (wc m):=by
 unfold gT at h |-;split
 ·rfl
 rename_i hq;rw [if_neg hq] at h;generalize (posOf w n b.qs).aX=q at h |-;unfold n7 at h |-;split
 case isFalse=>rfl
 rename_i hp;rw [if_pos hp] at h;split
 case isFalse=>rfl
 rename_i hf;rw [if_pos hf] at h;split
 ·rename_i hc;rw [if_pos hc] at h;rw [QN m h,BQ m hc.1]
 ·rename_i hc;rw [if_neg hc] at h;exact BQ m h
theorem MP (m:Int->Int) {s:af} {w:Int}:∀ (k i:Nat) {b:aG},(mj s w k i b).2=0->tot (mj s w k i b).1.qs (wc m)=tot b.qs (wc m)
 | 0,_,_,_=>rfl
 | k+1,i,b,h=>by
  simp only [mj] at h |-;split
  ·rename_i h0;rw [if_pos h0] at h;rw [MP m k (i+1) h,K8 m h0]
  ·rename_i h0;rw [if_neg h0] at h;exact absurd h h0
def mR (r:aq) (c:Int) (n:Int):Int:=if (bf r n&&(aV r n).cur==c)=true then (aV r n).mult else 0
def dh (s:af):Prop:=∀ c:Int,0<=c/\c<=2->gG (oU c) s.bE.bs+tot s.book.qs (wc (mR s.aj c))=0
theorem P5 {r r':aq} (e:r.ext r') {n:Int} (hi:bf r n=true) (c:Int):mR r' c n=mR r c n:=by
 unfold mR;rw [hi,e.inst n hi,(e.same n hi).1,(e.same n hi).2]
theorem VT {r r':aq} (e:r.ext r') {qs:List aA} (hq:∀ p∈qs,bf r p.inst=true) (c:Int):tot qs (wc (mR r' c))=tot qs (wc (mR r c)):=
 ct fun p hp=>by unfold wc;rw [P5 e (hq p hp)]
theorem T' {r r':aq} (h:r'.ns=r.ns) (c:Int):mR r' c=mR r c:=by
 funext n
 unfold mR bf aV;rw [h]
theorem qG {s:af} (h:s.right) (hp:dh s) {r':aq} (e:s.aj.ext r'):dh { s with aj:=r' }:=fun c hc=>by
 dsimp only;rw [VT e (fun p hp=>(h.known.qs p hp).2)];exact hp c hc
def nN (g:List aS):Prop:=∀ c:Int,0<=c/\c<=2->aC (dM (oU c) g)=0
theorem IU {g:List aS} (h:∀ x∈g,x.kind≠5):nN g:=fun c _=>qn fun x hx e=>h x hx (by
 have:=congrArg aJ.kind e
 exact this)
theorem Bj {g:List aS} (h:nN g):nN (iY g):=fun c hc=>by
 by_cases he:mX g=0
 ·rw [xY (tW hc) he];exact h c hc
 ·unfold iY;rw [if_neg he];rfl
theorem Ob {g k:List aS} (h1:nN g) (h2:nN k):nN (g++k):=fun c hc=>by
 rw [xI,h1 c hc,h2 c hc];rfl
theorem Ma {x y:aJ} {n:Int} (h1:x.kind≠5) (h2:y.kind≠5):nN (bP x y n):=fun c _ =>
 RL (fun e=>h1 (congrArg aJ.kind e)) (fun e=>h2 (congrArg aJ.kind e))
theorem nG {k1 w1 c1 k2 w2 c2 n:Int} (h1:k1≠5) (h2:k2≠5):nN (bP ⟨k1,w1,c1⟩ ⟨k2,w2,c2⟩ n):=Ma h1 h2
theorem nB {s:af} (hp:dh s) {g:List aS} (hg:nN g):dh (kf s g):=by
 unfold kf;split
 ·rename_i he;intro c hc;dsimp only;rw [MT he (tW hc),hg c hc,Int.add_zero];exact hp c hc
 ·exact hp
theorem O3 {s:af} (hp:dh s) (c:aY):dh (nJ s c).1:=by
 unfold nJ;split
 case isFalse=>exact hp
 split
 case isFalse=>exact hp
 split
 ·exact nB hp (nG (by decide) (by decide))
 split
 ·split
  ·exact nB (s:=s) hp (nG (by decide) (by decide))
  ·exact nB hp (nG (by decide) (by decide))
 ·exact nB hp (nG (by decide) (by decide))
theorem HS {s:af} (hp:dh s) (c:aY) (n:Int):dh (jU s c n).1:=by
 unfold jU;split
 case isFalse=>exact hp
 split
 case isFalse=>exact hp
 split
 case isFalse=>exact hp
 split
 case isFalse=>exact hp
 split
 ·exact hp
 split<;>exact hp
theorem NX (l:bn) (c:Int) (m:ak):nN (iM l c m):=by
 unfold iM;split
 ·exact nG (by decide) (by decide)
 ·intro _ _;rfl
theorem L6 (l:bn) (r:aq) (c:Int):nN (fq l r c):=by
 unfold fq;split
 ·refine Bj ?_
  have:∀ ms:List ak,nN (ms.flatMap (iM l c)):=fun ms=>by
   induction ms with
   | nil=>intro _ _;rfl
   | cons m t ih=>rw [List.flatMap_cons];exact Ob (NX l c m) ih
  exact this _
 ·intro _ _;rfl
theorem CO {s:af} (hp:dh s) (c:Int):dh (uo s c).1:=by
 unfold uo;split
 ·exact nB hp (L6 _ _ _)
 ·exact hp
theorem C0:∀ (m c:Nat) {s:af} (ds:List aN),dh s->dh (j0 m c s ds).1
 | 0,_,_,_,h=>h
 | m+1,c,s,ds,h=>by
  simp only [j0];split
  ·exact C0 m _ _ (CO h _)
  ·exact CO h _
theorem KX (m:Int->Int) {b:aG} {t:aL} (he:fM b t=0):tot (gS b t).qs (wc m)=tot b.qs (wc m):=by
 unfold gS;rw [if_pos he];dsimp only;rw [Mp m (E7 he).2.2.2.2,NJ];omega
theorem Gf (m:Int->Int) {b:aG} {n:Int} (he:eG b n=0):tot (dI b n).qs (wc m)=tot b.qs (wc m):=by
 unfold dI;rw [if_pos he];dsimp only;rw [Mp m (nL he).2.2,NJ];omega
theorem Kk {s:af} (h:s.right) (hp:dh s) (c:aY) (he:(iT s c).2.2=0):dh (iT s c).1:=by
 unfold iT at he |-;split
 ·rename_i hk;rw [if_pos hk] at he;split
  ·rename_i ht;rw [if_pos ht] at he;intro x hx;dsimp only;rw [KX _ he];exact hp x hx
  ·exact hp
 rename_i hk;rw [if_neg hk] at he;split
 ·rename_i hk;rw [if_pos hk] at he;exact qG h hp (Nk he).2
 rename_i hk;rw [if_neg hk] at he;split
 ·exact hp
 rename_i hf;rw [if_neg hf] at he;split
 case isFalse=>exact hp
 rename_i ha;rw [if_pos ha] at he;split
 ·rename_i hk;rw [if_pos hk] at he;intro x hx;dsimp only;rw [Gf _ he];exact hp x hx
 ·rename_i hk;rw [if_neg hk] at he;obtain ⟨e1,e2⟩:=sQ he;intro x hx;dsimp only;unfold om;rw [if_pos e1,KX _ e2,Gf _ e1];exact hp x hx
theorem OC {s:af} (hp:dh s) (c:aY):dh (qt s c).1:=by
 unfold qt;split
 case isFalse=>exact hp
 split
 case isFalse=>exact hp
 split
 ·exact hp
 split
 case isFalse=>exact hp
 split<;>exact hp
def q8 (c:Int) (d:aN):Int:=if d.cur=c then d.bX else 0
theorem I0 {f:Bool} {last:aN}:∀ (l:List aN) (s:Bool × aN),
  (∀ d∈l,(f||jy last d)=true->(iq f last l s).1=true /\ ¬ jy d (iq f last l s).2=true)/\(s.1=true->(iq f last l s).1=true /\ ¬ jy s.2 (iq f last l s).2=true)
 | [],s=>⟨fun d hd=>(by cases hd),fun h=>⟨h,by rw [gx];simp only [iq];omega⟩⟩
 | x :: r,s=>by
  simp only [iq];obtain ⟨i1,i2⟩:=I0 (f:=f) (last:=last) r (if y9 f last s x=true then (true,x) else s);constructor
  ·intro d hd hc;rcases List.mem_cons.1 hd with rfl | hd
   ·by_cases hb:y9 f last s d=true
    ·rw [if_pos hb] at i2 |-;exact i2 rfl
    ·rw [if_neg hb] at i2 |-;simp only [y9,hc,Bool.true_and,Bool.or_eq_true,Bool.not_eq_true',not_or] at hb;have h1:s.1=true:=by simpa using hb.1
     obtain ⟨j1,j2⟩:=i2 h1;refine ⟨j1,fun h=>?_⟩;have h2:=hb.2;rw [gx] at h j2 h2;omega
   ·exact i1 d hd hc
  ·intro hs
   by_cases hb:y9 f last s x=true
   ·rw [if_pos hb] at i2 |-;obtain ⟨j1,j2⟩:=i2 rfl;refine ⟨j1,fun h=>?_⟩;simp only [y9,hs,Bool.not_true,Bool.false_or,cg] at hb;have h2:=hb.2;dsimp only at j2;rw [gx] at h j2 h2;omega
   ·rw [if_neg hb] at i2 |-;exact i2 hs
theorem Nz (w c:Int) (l:List aN):aC (uw w c l)=tot l (fun d=>if d.who=w/\d.cur=c then d.bX else 0):=by
 induction l with
 | nil=>rfl
 | cons d r ih =>
  unfold uw at ih |-;rw [nw,ih,fU];congr 1;simp only [F7,cg,beq_iff_eq]
theorem Il {c:Int} {l:List aN} (hl:oW l=true):∀ (n:Nat) (f:Bool) (last:aN) (out:List aN),L2 f last l < n->(zY l n f last out).2=0->tot (zY l n f last out).1 (q8 c)=tot out (q8 c)+tot l (fun d=>if (f||jy last d)=true then q8 c d else 0)
 | 0,_,_,_,h,_=>by omega
 | n+1,f,last,out,hn,h=>by
  obtain ⟨hm1,hm2⟩:=I0 (f:=f) (last:=last) l (false,.zero);have hmem:=yj (f:=f) (last:=last) (l:=l) (s:=(false,.zero));simp only [zY] at h |-;obtain ⟨S,hS⟩:=aO (iq f last l (false,.zero));rw [<- hS] at h hm1 hmem |-;split
  ·rename_i hf;rw [if_pos hf] at h;split
   ·rename_i hg;rw [if_pos hg] at h
    obtain ⟨k1,k2⟩:S.2∈l/\(f||jy last S.2)=true:=by
     rcases hmem hf with e | e
     ·rw [e] at hf;cases hf
     ·exact e
    have hlt:=FK k1 k2;rw [Il hl n false S.2 _ (by omega) h,H6];have hgn:jl S.2.who S.2.cur l=aC (uw S.2.who S.2.cur l):=by unfold jl;rw [if_pos hg]
    have e1:tot (J5 l S.2) (q8 c)=tot l (fun d=>if d.who=S.2.who/\d.cur=S.2.cur then q8 c d else 0):=by
     have e2:tot (J5 l S.2) (q8 c)=if S.2.cur=c then jl S.2.who S.2.cur l else 0:=by
      unfold J5;split
      ·rename_i hz;have hz:jl S.2.who S.2.cur l=0:=by simpa using hz
       rw [hz];split<;>rfl
      ·simp only [tot,List.map_cons,List.map_nil,aC,q8];omega
     rw [e2,hgn,Nz]
     by_cases hc:S.2.cur=c
     ·rw [if_pos hc];refine ct fun d _=>?_
      by_cases hd:d.who=S.2.who/\d.cur=S.2.cur
      ·rw [if_pos hd,if_pos hd];unfold q8;rw [if_pos (by rw [hd.2,hc])]
      ·rw [if_neg hd,if_neg hd]
     ·rw [if_neg hc,gw];intro d _
      by_cases hd:d.who=S.2.who/\d.cur=S.2.cur
      ·rw [if_pos hd];unfold q8;rw [if_neg (by rw [hd.2];exact hc)]
      ·rw [if_neg hd]
    rw [e1,Int.add_assoc,<- gW];congr 1;refine ct fun d hd=>?_
    by_cases hq:(f||jy last d)=true
    ·rw [if_pos hq];have hmn:=(hm1 d hd hq).2
     by_cases he:d.who=S.2.who/\d.cur=S.2.cur
     ·rw [if_pos he,if_neg]
      ·omega
      ·rw [Bool.false_or,gx];omega
     ·rw [if_neg he,if_pos]
      ·omega
      ·rw [Bool.false_or,gx];rw [gx] at hmn;omega
    ·rw [if_neg hq]
     have hqf:f=false /\ ¬ jy last d=true:=by
      simp only [Bool.or_eq_true,not_or] at hq;exact ⟨by simpa using hq.1,hq.2⟩
     have k2:=k2;rw [hqf.1,Bool.false_or,gx] at k2;have h2:=hqf.2;rw [gx] at h2;rw [if_neg (by omega),if_neg (by rw [Bool.false_or,gx];omega)];rfl
   ·rename_i hg;rw [if_neg hg] at h;exact absurd h hg
  ·rename_i hf
   have:tot l (fun d=>if (f||jy last d)=true then q8 c d else 0)=0:=gw fun d hd=>by
    rw [if_neg];intro hq;exact hf (hm1 d hd hq).1
   rw [this];dsimp only;omega
theorem Na {c:Int} {l:List aN} (h:(jt l).2=0):tot (jt l).1 (q8 c)=tot l (q8 c):=by
 unfold jt at h |-;split
 ·rename_i hm;rw [if_pos hm] at h
  rw [Il hm _ _ _ _ (by
   have:L2 true .zero l<=l.length:=List.countP_le_length
   omega) h]
  simp only [Bool.true_or,if_true];simp [tot,aC]
 ·rename_i hm;rw [if_neg hm] at h;cases h
theorem F4 (c:Int):∀ l:List aN,aC (dM (oU c) (nH l)) = -tot l (q8 c)
 | []=>rfl
 | d :: r=>by
  have ih:=F4 c r;unfold nH at ih |-;rw [List.flatMap_cons,xI,ih,fU,lS,lS]
  have e1:¬ (aS.bK ⟨2,d.who,d.cur,d.bX⟩=oU c):=by
   intro e;have:=congrArg aJ.kind e;cases this
  rw [if_neg e1]
  have e2:(aS.bK ⟨5,0,d.cur,-d.bX⟩=oU c) ↔ d.cur=c:=by
   simp [aS.bK,oU]
  simp only [e2,q8,dM,pick,List.flatMap_nil,aC];split<;>omega
theorem OA {c:Int} (hc:0<=c/\c<=2) {l:List aN} (h:qm l=0):aC (dM (oU c) (oo l)) = -tot l (q8 c):=by
 unfold oo;rw [if_pos h];unfold qm at h;split at h
 case isFalse=>cases h
 split at h
 case isFalse hne=>exact absurd h hne
 rename_i hn;rw [xY (tW hc) h,F4,Na hn]
theorem ET {l:bn} {g:List aS} {e:Int} {a:aJ} (ha:a∈gE) (h0:(fB l g e).2=0):e=0/\gG a (fB l g e).1.bs=gG a l.bs+aC (dM a g):=by
 unfold fB at h0 |-;split
 ·rename_i hc;rw [if_pos hc] at h0;exact ⟨hc.1,MT h0 ha⟩
 ·rename_i hc;rw [if_neg hc] at h0;have h0:e=0:=h0
  have hg:g=[]:=by
   by_cases hg:g=[]
   ·exact hg
   ·exact absurd ⟨h0,hg⟩ hc
  rw [hg];exact ⟨h0,by simp [dM,pick,aC]⟩
theorem Hg {s:af} (hp:dh s) (he:gL s=0):dh (jB s):=by
 unfold jB;rw [if_pos he];unfold gL at he;split at he
 case isFalse=>cases he
 rename_i h1;split at he
 case isFalse=>cases he
 split at he
 case isFalse hne=>exact absurd he hne
 rename_i h3;split at he
 case isFalse hne=>exact absurd he hne
 rename_i h4;have hr:=eg.1 h1;have h5:=(Nj h3).2.2;intro c hc;dsimp only;obtain ⟨p1,p2⟩:=ET (tW hc) (show (fB s.bE (oo (iD s)) (qm (iD s))).2=0 from he)
 have e1:gG (oU c) (v8 s).1.bs=gG (oU c) s.bE.bs + -tot (oZ s.aj s.book) (q8 c):=by
  show gG (oU c) (fB s.bE (oo (iD s)) (qm (iD s))).1.bs=_
  rw [p2,OA hc p1];congr 2;exact Na h4
 have e2:∀ r2:aq,(∀ n,bf s.aj n=true->mR r2 c n=mR s.aj c n)->tot (vf s.aj s.book).qs (wc (mR r2 c))=tot s.book.qs (fun p=>mR s.aj c p.inst*(p.aX*dR (aV s.aj p.inst))):=fun r2 hm=>by
  unfold vf;rw [if_pos h3];dsimp only;rw [sY];refine ct fun p hpm=>?_
  have hi:=(Dg (h5 p hpm)).1;unfold mP;split
  ·rename_i hz;simp only [cg,beq_iff_eq] at hz;rw [hz.2];simp [tot,aC]
  ·simp only [tot,List.map_cons,List.map_nil,aC,wc];rw [hm _ hi];omega
 have e3:tot (oZ s.aj s.book) (q8 c)=tot s.book.qs (fun p=>mR s.aj c p.inst*(p.aX*dR (aV s.aj p.inst)) + -(wc (mR s.aj c) p)):=by
  unfold oZ;rw [if_pos h3];unfold tot;rw [List.map_map];refine ct (L:=s.book.qs) fun p hpm=>?_
  have hi:=(Dg (h5 p hpm)).1
  show q8 c (wT s.aj p)=_
  unfold q8 wT mR wc gP;simp only [mR,hi,Bool.true_and,beq_iff_eq]
  by_cases hcc:(aV s.aj p.inst).cur=c
  ·simp only [if_pos hcc];generalize (aV s.aj p.inst).mult=m;generalize dR (aV s.aj p.inst)=pr;have e:p.aX*(pr*m)=m*(p.aX*pr):=by rw [<- Int.mul_assoc,Int.mul_comm]
   have e':-p.cost*m = -(m*p.cost):=by rw [Int.neg_mul,Int.mul_comm]
   rw [e,e']
  ·simp only [if_neg hcc];simp
 rw [e1,e3,e2 _ (fun n hn=>P5 (Jo hr.aj).2 hn c),gW]
 have e4:tot s.book.qs (fun p=>-(wc (mR s.aj c) p)) = -tot s.book.qs (wc (mR s.aj c)):=by
  have:=TZ s.book.qs (wc (mR s.aj c)) (-1);rw [show (fun p=>-(wc (mR s.aj c) p))=(fun p=>-1*wc (mR s.aj c) p) from funext fun p=>by omega,this];omega
 rw [e4];have:=hp c hc;omega
theorem Ke:∀ (l:List au) (x:aq × List au),(∀ c∈l,bq x.1 c.who≠0)->x.1.okB=true->(eL l x).1.ns=x.1.ns
 | [],_,_,_=>rfl
 | c :: r,x,h1,h2=>by
  have h:=nx h2 (h1 c (by simp)) (p:=2) (by omega);obtain ⟨p1,p2,p3,_⟩:=vp h;simp only [eL]
  rw [Ke r _ (fun y hy=>by
   dsimp only;rw [p2];split
   ·decide
   ·exact h1 y (by simp [hy])) p1,p3]
theorem L7 {s:af} {n:Int} (hp:dh s) (he:dL s n=0):dh (cE s n):=by
 unfold cE;rw [if_pos he];unfold dL at he;split at he
 case isFalse=>cases he
 rename_i h1;have hr:=eg.1 h1
 have hns:=Ke (dQ (s.now+n) s.calls) (s.aj,s.calls) (fun c hc=>by
  obtain ⟨x,hx,hc⟩:=List.mem_flatMap.1 hc;split at hc
  ·obtain rfl:=List.mem_singleton.1 hc;have:=hr.known.cs _ hx;dsimp only;omega
  ·cases hc) hr.aj
 intro c hc;dsimp only;rw [T' hns];exact hp c hc
theorem Mx {k c n all:Int} {ws gs:List Int} (hk:k≠5):nN (tq k c n all ws gs):=by
 unfold tq;split
 ·refine Bj (IU fun x hx=>?_);unfold BE at hx;rcases List.mem_cons.1 hx with rfl | hx
  ·show (6:Int)≠5
   decide
  ·obtain ⟨i,_,hx⟩:=iB.1 hx;unfold sF at hx;obtain rfl:=List.mem_singleton.1 hx;exact hk
 ·intro _ _;rfl
theorem SP (l:bn) (c n:Int) (ws:List Int):nN (za l c n ws):=by
 unfold za;split
 ·exact Mx (by decide)
 ·intro _ _;rfl
theorem ON (r:aq) (c n:Int) (ws:List Int):nN (oL r c n ws):=by
 unfold oL;split
 ·exact Mx (by decide)
 ·intro _ _;rfl
theorem TU {s:af} {w:Int} {i:Nat} {gain:Int} {f:ck} {a b:Int} {c:Int} (hc:0<=c/\c<=2) (hg:bS gain=true) (h:(kk s w i gain f a b).2.2=0):aC (dM (oU c) (kk s w i gain f a b).1)=if (i:Int)=c then -gain else 0:=by
 unfold kk at h |-;split
 case isFalse hne=>rw [if_neg hne] at h;exact absurd h hne
 rename_i h1;rw [if_pos h1] at h;split
 case isFalse hne=>rw [if_neg hne] at h;exact absurd h hne
 rename_i h2;rw [if_pos h2] at h;split
 case isFalse hne=>rw [if_neg hne] at h;cases h
 rename_i h3;rw [if_pos h3] at h;dsimp only at h |-;rw [xY (tW hc) h];unfold LL Tt;have hv:∀ (k1 w1 k2 w2 n:Int),k1≠5->k2≠5->aC (dM (oU c) (bP ⟨k1,w1,i⟩ ⟨k2,w2,i⟩ n))=0:=fun k1 w1 k2 w2 n h1 h2=>nG h1 h2 c hc
 simp only [xI];rw [hv 1 0 2 w _ (by decide) (by decide),hv 6 0 2 w _ (by decide) (by decide),hv 2 w 6 0 _ (by decide) (by decide),hv 3 w 6 0 _ (by decide) (by decide),hv 4 0 6 0 _ (by decide) (by decide),hv 2 w 1 0 _ (by decide) (by decide),hv 3 w 1 0 _ (by decide) (by decide),SP _ _ _ _ c hc,ON _ _ _ _ c hc,NQ hg];have e1:((⟨5,0,(i:Int)⟩:aJ)=oU c) ↔ (i:Int)=c:=by simp [oU]
 have e2:¬ ((⟨2,w,(i:Int)⟩:aJ)=oU c):=by simp [oU]
 rw [if_neg e2];simp only [e1];omega
theorem I6 {s:af} {w c:Int} (hc:0<=c/\c<=2):∀ (m i:Nat) (l:bn) (p:List aN),(nh s w m i l p).2.2=0->gG (oU c) (nh s w m i l p).1.bs=gG (oU c) l.bs+if (i:Int)<=c/\c < (i:Int)+m then -bL s w c.toNat else 0
 | 0,i,l,p,_=>by simp only [nh];rw [if_neg (by omega)];omega
 | m+1,i,l,p,h=>by
  simp only [nh] at h |-;split
  ·rename_i h0;rw [if_pos h0] at h;obtain ⟨p1,p2⟩:=ET (tW hc) h0;rw [I6 hc m (i+1) _ _ h,p2];have hv:aC (dM (oU c) (iw s w i).1)=if (i:Int)=c then -bL s w i else 0:=TU hc (yq _ _ _) p1
   rw [hv]
   by_cases hi:(i:Int)=c
   ·have:c.toNat=i:=by omega
    rw [this,if_pos hi,if_neg (by omega),if_pos (by omega)];omega
   ·rw [if_neg hi]
    by_cases hj:(i:Int) < c/\c < (i:Int)+(m+1:Nat)
    ·rw [if_pos (by omega),if_pos (by omega)];omega
    ·rw [if_neg (by omega),if_neg (by omega)];omega
  ·rename_i h0;rw [if_neg h0] at h;exact absurd h h0
theorem SU (m:Int->Int) (w:Int) (l:List aA):tot (mU w l) (wc m)+tot l (fun p=>if p.who=w then wc m p else 0)=tot l (wc m):=by
 unfold mU;rw [sY,<- gW];refine ct fun p _=>?_
 by_cases h:p.who=w
 ·rw [if_pos (by simpa using h),if_pos h];simp [tot,aC]
 ·rw [if_neg (by simpa using h),if_neg h];simp [tot,aC]
theorem M7 {s:af} {w c:Int}:∀ {l:List aA},(∀ p∈l,bf s.aj p.inst=true)->aC (uw w c (oG s w l)) = -tot l (fun p=>if p.who=w then wc (mR s.aj c) p else 0)
 | [],_=>rfl
 | p :: r,h=>by
  have ih:=M7 (s:=s) (w:=w) (c:=c) (l:=r) fun q hq=>h q (by simp [hq])
  have hi:=h p (by simp);rw [Nz] at ih |-;unfold oG at ih |-;rw [List.flatMap_cons,H6,ih,fU]
  have:tot (LY s w p) (fun d=>if d.who=w/\d.cur=c then d.bX else 0) = -(if p.who=w then wc (mR s.aj c) p else 0):=by
   unfold LY
   by_cases hw:p.who=w
   ·rw [if_pos (by simpa using hw),if_pos hw];simp only [tot,List.map_cons,List.map_nil,aC,true_and,wc,mR,hi,Bool.true_and,beq_iff_eq,gP];split
    ·generalize (aV s.aj p.inst).mult=m;rw [Int.zero_mul,Int.mul_zero,Int.neg_mul,Int.mul_comm p.cost m];omega
    ·simp
   ·rw [if_neg (by simpa using hw),if_neg hw];rfl
  rw [this];omega
theorem Pt {s:af} {w:Int} (hp:dh s) (he:ur s w=0):dh (lz s w):=by
 unfold lz;rw [if_pos he];obtain ⟨e1,e2,_,e4⟩:=HW he;obtain ⟨hm,hG⟩:=Bw e1;obtain ⟨h1,hs⟩:=uf hm;have hr:=eg.1 h1;have hpz:=nx hr.aj (w:=w) (p:=3) (by omega) (by omega);obtain ⟨_,_,hns,_⟩:=vp hpz;have hw:=(H8 hr.aj (w:=w) (by omega)).2;have hknow:=(GQ hr hw hs 8 0 rfl (b:=s.book) ⟨hr.book,hr.known,rfl⟩ (fun k hk=>by omega) hG).1.known;have hgA:=vQ e2;intro c hc;dsimp only;rw [T' hns,I6 hc 3 0 s.bE [] e4,if_pos (by omega)];have hq:(oC s w).qs=mU w (mj s w 8 0 s.book).1.qs:=by unfold oC;rw [if_pos e1]
 have hd:p9 s w=oG s w (mj s w 8 0 s.book).1.qs:=by unfold p9;rw [if_pos e1]
 have hgE:kF w ((c.toNat:Nat):Int) (p9 s w)=0:=hgA c.toNat (by omega) (by omega)
 have hgain:bL s w c.toNat = -tot (mj s w 8 0 s.book).1.qs (fun p=>if p.who=w then wc (mR s.aj c) p else 0):=by
  unfold bL jl;rw [if_pos hgE,hd,show ((c.toNat:Nat):Int)=c by omega];exact M7 fun p hp=>(hknow.qs p hp).2
 have hk:=SU (mR s.aj c) w (mj s w 8 0 s.book).1.qs;have hwp:=MP (mR s.aj c) (s:=s) (w:=w) 8 0 hG;have:=hp c hc;rw [hq,hgain];omega
theorem HR {s:af} (hp:dh s) (he:iC s=0):dh (jg s):=by
 unfold jg;rw [if_pos he];exact hp
theorem LG {s:af} (hp:dh s) (he:rL s=0):dh (rA s):=by
 unfold rA;rw [if_pos he];exact hp
theorem ID {s:af} {c:aY} (h:s.right) (hp:dh s) (he:(fk s c).2.1=0):dh (fk s c).1:=by
 revert he
 exact oP s c (P:=fun m=>m.2.1=0->dh m.1) (fun he=>qG h hp (Jk he).2) (fun he=>qG h hp (MD he).2) (fun he=>qG h hp (M6 he).2) (fun _=>O3 hp c) (fun _=>HS hp c _) (fun _=>nB hp (nG (by decide) (by decide)))
  (fun he=>Kk h hp c he) (fun he=>Hg hp he) (fun he=>HR hp he) (fun he=>LG hp he) (fun he=>L7 hp he) (fun _=>OC hp c) (fun he=>Pt hp he) (fun _=>C0 3 0 [] hp) (fun _ _ _=>hp)
theorem OQ {s:af} {c:aY} (h:s.right) (hp:dh s):dh (tv s c).1:=by
 unfold tv;split
 ·exact hp
 show dh (aQ s c).1
 unfold aQ br;split
 ·rename_i he;exact ID h hp he
 ·exact hp
end Go.Proofs.YtacacccbcndjoaaGreat
