/- Right states: the day, the close, refills, and what follows. No theorem of a claim. -/
import Derived.Test.YtccipdjjkcejgaaGreatMF
import Derived.Test.YtccipdjjkcejgaaGreatME
import Derived.Test.YtccipdjjkcejgaaGreatMB
import Derived.Test.YtccipdjjkcejgaaGreatMD
import Derived.Test.YtccipdjjkcejgaaGreatMA
import Derived.Test.YtccipdjjkcejgaaGreatMC
set_option linter.unusedSimpArgs false
set_option linter.unusedVariables false
set_option maxHeartbeats 4000000
set_option maxRecDepth 16000
namespace Go.Proofs.YtccipdjjkcejgaaGreat
open Go.Abs Tryz
open List hiding lt max min
theorem Lo {s:af} (h:s.right) (c:Int):(wN s c).1.right:=by
 unfold wN;split
 ·exact rq h _
 ·exact h
theorem Lm:∀ (m c:Nat) {s:af} (ds:List aE),s.right->(nB m c s ds).1.right
 | 0,_,_,_,h=>h
 | m+1,c,s,ds,h=>by
  simp only [nB];split
  ·exact Lm m _ _ (Lo h _)
  ·exact Lo h _
theorem QN {s:af} (a:jF s=0):(lJ s).right:=by
 unfold lJ;rw [aq a];unfold jF at a;split at a
 case isFalse=>cases a
 rename_i g;split at a
 case isFalse=>cases a
 split at a
 case isFalse hne=>exact absurd a hne
 rename_i f;split at a
 case isFalse hne=>exact absurd a hne
 have hr:=eW.1 g;obtain ⟨i,t2⟩:=adz hr.aj;have k:=hr.known.ext t2;have e:D8 s.aj s.book=⟨s.book.next,s.book.ts,s.book.qs.flatMap (sv s.aj)⟩:=by unfold D8;rw [aq f]
 refine ⟨⟨hr.NI.1,hr.NI.2.1,by dsimp only;decide,by dsimp only;decide⟩,i,afw f,OI hr.bu a,hr.ps,hr.calls,⟨fun p b=>?_,fun t c=>?_,k.ps,k.cs⟩,hr.bl,hr.bH,hr.aA⟩
 ·dsimp only at b |-;rw [e] at b;obtain ⟨q,h,b⟩:=mem_flatMap.1 b;rw [(yP b).1];exact k.qs q h
 ·dsimp only at c |-;rw [e] at c;exact k.ts t c
theorem TU {r:az} (h:r.okB=true) {w:Int} (c:w∈ld r [1]):bM r w=1:=by
 obtain ⟨m,a,b,rfl⟩:=rX c;have e:fU r m.no=m:=sP (cr.1 h).1.2 a rfl;unfold bM;rw [e];simp only [Ob,any_cons,any_nil,Bool.or_false,eH] at b;exact b.symm
theorem KR {s:af} {w:Int} (h:bM s.aj w=1):∀ (m c:Nat) (x:List aB × List aE),(qt cj bO x.1=true/\∀ y∈x.1,bM s.aj y.who=1)->qt cj bO (rQ s w m c x).1.1=true/\∀ y∈(rQ s w m c x).1.1,bM s.aj y.who=1
 | 0,_,_,hx=>hx
 | m+1,c,x,hx=>by
  simp only [rQ];split
  ·obtain ⟨b,a2⟩:=Wh (d:=⟨w,c,TI s w c⟩) (t:=KP s) hx.1;refine KR h m _ _ ⟨b,fun y a=>?_⟩;rcases a2 y a with e | a
   ·rw [e];exact h
   ·exact hx.2 y a
  ·exact hx
theorem Ot {s:af}:∀ (ws:List Int) (x:List aB × List aE),(∀ w∈ws,bM s.aj w=1)->(qt cj bO x.1=true/\∀ y∈x.1,bM s.aj y.who=1)->qt cj bO (vi s ws x).1.1=true/\∀ y∈(vi s ws x).1.1,bM s.aj y.who=1
 | [],_,_,hx=>hx
 | w :: r,x,hw,hx=>by
  simp only [vi];split
  ·exact Ot r _ (fun v a=>hw v (by simp [a])) (KR (hw w (by simp)) 3 0 x hx)
  ·exact KR (hw w (by simp)) 3 0 x hx
theorem Qf {s:af} (a:lG s=0):(kj s).right:=by
 unfold kj;rw [aq a];unfold lG at a;split at a
 case isFalse=>cases a
 rename_i c;have hr:=eW.1 c;obtain ⟨b,a2⟩:=Ot (s:=s) (ld s.aj [1]) (s.calls,[]) (fun w f=>TU hr.aj f) ⟨hr.calls,hr.known.cs⟩;exact ⟨⟨hr.NI.1,hr.NI.2.1,by dsimp only;decide,by dsimp only;decide⟩,hr.aj,hr.book,hr.bu,hr.ps,b,⟨hr.known.qs,hr.known.ts,hr.known.ps,a2⟩,hr.bl,hr.bH,hr.aA⟩
theorem Vl {s:af} (a:xV s=0):(uE s).right:=by
 unfold uE;rw [aq a];unfold xV at a;split at a
 case isFalse=>cases a
 rename_i f;split at a
 case isFalse=>cases a
 split at a
 ·cases a
 have hr:=eW.1 f;have b:=cy.1 hr.book;have g:=hr.NI;exact ⟨⟨g.1,by dsimp only;omega,by dsimp only;decide,by dsimp only;decide⟩,hr.aj,cy.2 ⟨b.ok,b.pw,b.level,fun t c=>(by cases c),Pairwise.nil,Nat.zero_le _,b.n0,b.n1⟩,hr.bu,hr.ps,hr.calls,⟨hr.known.qs,fun t c=>(by cases c),hr.known.ps,hr.known.cs⟩,hr.bl,hr.bH,hr.aA⟩
theorem Gx {r:az} {w p:Int} (h:r.okB=true) (a:bM r w≠0) (hp:1<=p/\p<=3):MU r w p=0:=by
 unfold MU;rw [aq h,aq ((vJ h).1 a),aq (by simp only [within,cU,bL];omega)]
theorem PW {w v:Int}:Ob [w] v=decide (v=w):=by
 simp only [Ob,any_cons,any_nil,Bool.or_false];rw [lA];simp only [eH,bL];exact eq_comm
theorem D3 {r:az} {w p:Int} (h:MU r w p=0) (n:Int):bJ (ju r w p) n=bJ r n/\mT (ju r w p) n=mT r n:=by
 obtain ⟨_,_,a,b⟩:=QA h;unfold bJ mT;rw [a,b];exact ⟨rfl,rfl⟩
theorem VA {r:az} {qs ts ps cs} {w:Int} (hr:r.okB=true) (u:bM r w≠0) (k:kL r qs ts ps cs):(ju r w 2).okB=true/\kL (ju r w 2) qs ts ps (eI cs [w])/\∀ v,bM r v≠0->bM (ju r w 2) v≠0:=by
 have h:=Gx hr u (p:=2) ah;obtain ⟨x,i,_⟩:=QA h;have l:=fun n=>(D3 h n).1;have q:=fun n=>(D3 h n).2;have m:∀ v,(bM r v=1\/bM r v=2)->bM (ju r w 2) v=1\/bM (ju r w 2) v=2:=fun v g=>by rw [i];split;exact .inr rfl;exact g
 have b:∀ v,bM r v≠0->bM (ju r w 2) v≠0:=fun v g=>by rw [i];split;decide;exact g
 refine ⟨x,⟨fun p a=>⟨m _ (k.qs p a).1,by rw [l];exact (k.qs p a).2⟩,fun t f=>⟨b _ (k.ts t f).1,b _ (k.ts t f).2.1,by rw [l];exact (k.ts t f).2.2⟩,fun p a=>⟨m _ (k.ps p a).1,by rw [q];exact (k.ps p a).2⟩,fun c s=>?_⟩,b⟩;obtain ⟨o,j⟩:=vN.1 s;rw [PW] at j;rw [i,ak (by simpa using j)];exact k.cs c o
theorem TV {qs ts ps}:∀ (l:List aB) (x:az × List aB),(∀ c∈l,bM x.1 c.who≠0)->x.1.okB=true->kL x.1 qs ts ps x.2->qt cj bO x.2=true->(lV l x).1.okB=true/\kL (lV l x).1 qs ts ps (lV l x).2/\qt cj bO (lV l x).2=true
 | [],_,_,h2,h3,h4=>⟨h2,h3,h4⟩
 | c :: r,x,h1,h2,h3,h4=>by
  obtain ⟨a,a2,a3⟩:=VA h2 (h1 c (by simp)) h3;simp only [lV];exact TV r _ (fun y b=>a3 _ (h1 y (by simp [b]))) a a2 (Hz h4)
theorem VZ {s:af} {n:Int} (a:qk s n=0):(mD s n).right:=by
 unfold mD;rw [aq a];unfold qk at a;split at a
 case isFalse=>cases a
 rename_i g;split at a
 case isFalse=>cases a
 rename_i h;split at a
 ·cases a
 simp only [within,cU,bL] at h;have hr:=eW.1 g;have b:=hr.NI
 obtain ⟨f,a2,a3⟩:=TV (kg (s.now+n) s.calls) (s.aj,s.calls) (fun c b=>by
  obtain ⟨x,i,b⟩:=mem_flatMap.1 b;split at b
  ·obtain rfl:=ga.1 b;have:=hr.known.cs _ i;dsimp only;omega
  ·cases b) hr.aj hr.known hr.calls
 exact ⟨⟨by dsimp only;omega,b.2⟩,f,hr.book,hr.bu,hr.ps,a3,a2,hr.bl,hr.bH,hr.aA⟩
theorem WW {s:af} {w:Int}:∀ (m i:Nat) (l:bE) (p:List aE),l.okB=true->(Ai s w m i l p).2.2=0->(Ai s w m i l p).1.okB=true
 | 0,_,_,_,h,_=>h
 | m+1,i,l,p,h,he=>by
  simp only [Ai] at he |-;split
  ·rename_i a;rw [aq a] at he;exact WW m _ _ _ (OI h a) he
  ·rename_i a;rw [ak a] at he;exact absurd he a
theorem WT {s:af} {w:Int} (h:BL s w=0):qh s w=0/\gP (AH s w) 3 0=0/\gP (Hi s w) 3 0=0/\(Ai s w 3 0 s.bu []).2.2=0:=by
 unfold BL at h;split at h
 case isFalse hne=>exact absurd h hne
 rename_i a;split at h
 case isFalse hne=>exact absurd h hne
 rename_i b;split at h
 case isFalse hne=>exact absurd h hne
 rename_i c;exact ⟨a,b,c,h⟩
theorem Kz {w:Int} {l:List fG} {p:fG}:p∈Ky w l ↔ p∈l/\p.who≠w:=by
 unfold Ky;rw [mem_flatMap];constructor
 ·rintro ⟨x,f,h⟩;split at h
  ·cases h
  ·rename_i c;obtain rfl:=ga.1 h;exact ⟨f,by simpa using c⟩
 ·rintro ⟨a,b⟩;exact ⟨p,a,by rw [ak (by simpa using b)];simp⟩
theorem U7 {w:Int} {l:List bB} {b:bB}:b∈BE w l ↔ b∈l/\b.who≠w/\b.src≠w:=by
 unfold BE;rw [mem_flatMap];constructor
 ·rintro ⟨x,f,h⟩;split at h
  ·cases h
  ·rename_i a;obtain rfl:=ga.1 h;simp only [Bool.or_eq_true,eH] at a;exact ⟨f,fun e=>a (.inl e),fun e=>a (.inr e)⟩
 ·rintro ⟨c,h2,h3⟩;exact ⟨b,c,by rw [ak (by simp only [Bool.or_eq_true,eH];omega)];simp⟩
theorem YY {s:af} {w:Int} (m:BL s w=0):(DQ s w).right:=by
 unfold DQ;rw [aq m];obtain ⟨j,_,_,A⟩:=WT m;obtain ⟨D,_⟩:=xY j;obtain ⟨g,hs⟩:=I0 D;have hr:=eW.1 g;have a:=Gx hr.aj (w:=w) (p:=3) ah ah;obtain ⟨E,x,_⟩:=QA a;have q:=fun n=>(D3 a n).1;have B:=fun n=>(D3 a n).2;obtain ⟨y,i,z⟩:=acC j;have f:∀ v,v≠w->bM (ju s.aj w 3) v=bM s.aj v:=fun v h=>by rw [x,ak h]
 have o:=jB.1 hr.ps;refine ⟨hr.NI,E,y,WW 3 0 s.bu [] hr.bu A,jB.2 ⟨fun p a=>o.1 p (Kz.1 a).1,VV o.2⟩,Hz hr.calls,⟨fun p a=>?_,fun t u=>?_,fun p a=>?_,fun c l=>?_⟩,Nat.le_trans (U6 _ _) hr.bl,fun b C=>hr.bH b (U7.1 C).1,hr.aA⟩
 ·dsimp only at a |-;rw [f _ (z p a),q];exact i.qs p a
 ·dsimp only at u |-;have:=i.ts t u;have r:∀ v,bM s.aj v≠0->bM (ju s.aj w 3) v≠0:=fun v h=>by rw [x];split;decide;exact h
  exact ⟨r _ this.1,r _ this.2.1,by rw [q];exact this.2.2⟩
 ·dsimp only at a |-;have:=Kz.1 a;rw [f _ this.2,B];exact hr.known.ps p this.1
 ·dsimp only at l |-;obtain ⟨g,k⟩:=vN.1 l;rw [PW] at k;rw [f _ (by simpa using k)];exact hr.known.cs c g
theorem sL (s:af) (c:aN) {P:af × Int × Int × Int × List aE × List dQ->Prop}
  (C:P ({ s with aj:=jc s.aj c.who c.br },lY s.aj c.who c.br,0,0,[],[]))
  (a2:P ({ s with aj:=mZ s.aj (xI c) },qL s.aj (xI c),0,0,[],[]))
  (a3:P ({ s with aj:=mq s.aj ⟨c.no,c.cur,c.aH,c.br⟩ },rJ s.aj ⟨c.no,c.cur,c.aH,c.br⟩,0,0,[],[]))
  (a4:P ((wM s c).1,(wM s c).2,0,0,[],[]))
  (D:P ((oq s c (ng c)).1,(oq s c (ng c)).2,0,0,[],[]))
  (E:P (sF s (cg ⟨1,0,c.cur⟩ ⟨4,0,c.cur⟩ c.br),qz s (cg ⟨1,0,c.cur⟩ ⟨4,0,c.cur⟩ c.br),0,0,[],[]))
  (k:P ((nD s c).1,(nD s c).2.2,(nD s c).2.1,0,[],[]))
  (l:P (lJ s,jF s,0,0,qW s,[]))
  (m:P (kj s,lG s,0,0,pK s,[]))
  (o:P (uE s,xV s,0,0,[],[]))
  (p:P (mD s c.br,qk s c.br,0,0,qj s c.br,[]))
  (q:P ((uW s c).1,(uW s c).2,0,0,[],[]))
  (r:P (DQ s c.who,BL s c.who,0,0,MR s c.who,MS s c.who))
  (t:P ((nB 3 0 s []).1,(nB 3 0 s []).2.2,0,0,(nB 3 0 s []).2.1,[]))
  (a:∀ e v,P (s,e,0,v,[],[])):P (dw s c):=by
 unfold dw;by_cases u:c.kind=1
 ·rw [aq u];exact C
 rw [ak u];by_cases k1:c.kind=2
 ·rw [aq k1];exact a2
 rw [ak k1];by_cases k2:c.kind=3
 ·rw [aq k2];exact a3
 rw [ak k2];by_cases k3:c.kind=4\/c.kind=5\/c.kind=8
 ·rw [aq k3];exact a4
 rw [ak k3];by_cases w:c.kind=6\/c.kind=7
 ·rw [aq w];exact D
 rw [ak w];by_cases x:c.kind=9
 ·rw [aq x];split
  ·exact E
  ·exact a _ _
 rw [ak x];by_cases y:c.kind=10\/c.kind=11\/c.kind=12\/c.kind=13
 ·rw [aq y];split
  ·exact k
  ·exact a _ _
 rw [ak y];by_cases z:c.kind=14
 ·rw [aq z];exact l
 rw [ak z];by_cases A:c.kind=15
 ·rw [aq A];exact m
 rw [ak A];by_cases B:c.kind=16
 ·rw [aq B];exact o
 rw [ak B];by_cases b:c.kind=17
 ·rw [aq b];exact p
 rw [ak b];by_cases f:c.kind=18
 ·rw [aq f];exact q
 rw [ak f];by_cases g:c.kind=19
 ·rw [aq g];exact r
 rw [ak g];by_cases h:c.kind=20
 ·rw [aq h];exact t
 rw [ak h];by_cases i:c.kind=21
 ·rw [aq i];split
  ·exact a _ _
  ·exact a _ _
 rw [ak i];by_cases j:c.kind=22
 ·rw [aq j];split
  ·exact a _ _
  ·exact a _ _
 rw [ak j];exact a _ _
theorem RQ {s:af} {c:aN} (h:s.right) (a:(dw s c).2.1=0):(dw s c).1.right:=by
 revert a;exact sL s c (P:=fun m=>m.2.1=0->m.1.right) (fun a=>vA h (aaN a)) (fun a=>vA h (aeU a)) (fun a=>vA h (aeH a)) (fun _=>Y4 h c) (fun _=>Qu h c _) (fun _=>rq h _) (fun a=>TZ h c a)
  (fun a=>QN a) (fun a=>Qf a) (fun a=>Vl a) (fun a=>VZ a) (fun _=>XJ h c) (fun a=>YY a) (fun _=>Lm 3 0 [] h) (fun _ _ _=>h)
theorem RS {s:af} {c:aN} (h:s.right):(gY s c).1.right:=by
 unfold gY xw;split
 ·rename_i a;exact RQ h a
 ·exact h
theorem Oi:∀ (l:List Int) (lo b:Int),l.Pairwise (fun a c=>a < c)->(∀ x∈l,lo<=x/\x < b)->lo<=b->(l.length:Int)<=b-lo
 | [],lo,b,_,_,h=>by simp;omega
 | x :: r,lo,b,hp,hx,hlh=>by
  rw [iL] at hp;have hx0:=hx x (by simp);have:=Oi r (x+1) b hp.2 (fun y f=>by have:=hp.1 y f;have:=hx y (by simp [f]);omega) ah;simp only [length_cons];omega
theorem xR {A:Type} {xs:List A} (f:A->Int) (lo g:Int) {R:A->A->Prop} (i:xs.Pairwise R) (l:∀ a∈xs,∀ b∈xs,R a b->f a < f b) (m:∀ x∈xs,lo<=f x/\f x < g) (h:lo<=g):(xs.length:Int)<=g-lo:=by
 have k:(xs.map f).Pairwise (fun a c=>a < c):=by
  rw [pairwise_map];exact Pairwise.imp_of_mem (fun {p q} i hq hpq=>l p i q hq hpq) i
 have:=Oi _ lo g k (fun x j=>by
  obtain ⟨y,o,rfl⟩:=mem_map.1 j
  exact m y o) h
 rwa [qn] at this
structure af.lens (s:af):Prop where
 ms:s.aj.ms.length<=16
 ns:s.aj.ns.length<=8
 xs:s.aj.xs.length<=6
 ts:s.book.ts.length<=128
 qs:s.book.qs.length<=128
 bs:s.bu.bs.length<=1000
 ps:s.ps.length<=1000
 calls:s.calls.length<=1000
 bH:s.bH.length<=32
 aA:s.aA.length<=8
theorem af.right.lens {s:af} (h:s.right):s.lens:=by
 obtain ⟨⟨o1,q⟩,⟨o2,p2⟩,⟨o3,p3⟩⟩:=cr.1 h.aj;have m:=rP.1 h.bu;have k:=jB.1 h.ps;have j:=je.1 h.calls;have l:=(jA (lt:=fW) jX).1 h.aA;refine ⟨?_,?_,?_,(cy.1 h.book).tl,AT h.book,?_,?_,?_,h.bl,?_⟩
 ·have:=xR au.no 1 17 q (fun _ _ _ _ h=>h) (fun x c=>by have:=nP (o1 x c);omega) (by decide);omega
 ·have:=xR aC.no 1 9 p2 (fun _ _ _ _ h=>h) (fun x c=>by have:=u6 (o2 x c);omega) (by decide);omega
 ·have:=xR ay.a 1 7 p3 (fun _ _ _ _ h=>h) (fun x c=>by have:=wU (o3 x c);omega) (by decide);omega
 ·have hr:=fun b g=>GC (Gi h.bu b g)
  have:=xR (fun b:cq=>b.bz.kind*64+b.bz.who*3+b.bz.cur) 0 500 m.2.1.2 (fun a i b g f=>by
   have:=hr a i;have:=hr b g
   rw [pW] at f;omega) (fun x c=>by have:=hr x c;omega) (by decide)
  omega
 ·have hr:∀ p∈s.ps,0<=p.key/\p.key < 500:=fun p o=>by
   have:=rZ.1 (k.1 p o).1;unfold fG.key;omega
  have:=xR fG.key 0 500 k.2 (fun _ _ _ _ h=>h) hr (by decide);omega
 ·have hr:=fun b g=>ij.1 (j.1 b g)
  have:=xR (fun b:aB=>b.who*3+b.cur) 0 500 j.2 (fun a i b g f=>by
   have:=hr a i;have:=hr b g
   simp only [bO,Bool.or_eq_true,cU,bL,eH] at f;omega) (fun x c=>by have:=hr x c;omega) (by decide)
  omega
 ·have hr:∀ x∈s.aA,1<=x.client/\x.client<=8:=fun x c=>by
   have:=l.1 x c;simp only [mg,within,cU,bL] at this;omega
  have:=xR aO.client 1 9 l.2 (fun a _ b _ f=>by simpa [fW] using f) (fun x c=>by have:=hr x c;omega) (by decide);omega
structure af.eo (s:af):Prop where
 right:s.right
 last:s.bu.last<=1099511627776
 fit:∀ x∈s.aA,x.r.fits
theorem Wy {n:Int} (h:bQ n=true):gm n:=by
 rw [bI] at h;exact ⟨by omega,by omega⟩
theorem af.right.n7 {s:af} (h:s.right) (hla:s.bu.last<=1099511627776) (p:∀ x∈s.aA,x.r.fits):s.n7:=by
 obtain ⟨⟨o1,p1⟩,⟨o2,p2⟩,⟨o3,p3⟩⟩:=cr.1 h.aj;have f:=cy.1 h.book;have t:=rP.1 h.bu;have q:=jB.1 h.ps;have o:=je.1 h.calls;have u:=(jA (lt:=fW) jX).1 h.aA;have hk:=h.NI;have n0:=f.n0;have n1:=f.n1;refine ⟨⟨by omega,by omega⟩,⟨by omega,by omega⟩,⟨by omega,by omega⟩,fun x a=>?_,fun x a=>?_,fun x a=>?_,⟨by omega,by omega⟩,fun x a=>?_,fun x a=>?_,?_,fun x a=>?_,fun x a=>ajE (q.1 x a),fun x a=>?_,fun x a=>?_,fun x a=>?_⟩
 ·have:=nP (o1 x a);exact ⟨⟨by omega,by omega⟩,⟨by omega,by omega⟩,⟨by omega,by omega⟩⟩
 ·have:=o2 x a;simp only [aC.ok,within,cU,bL] at this;have b:=fun j=>LJ (o2 x a) j;have i:=b 0;have g:=b 1;have c:=b 2;have k:=b 3;have l:=b 4;have m:=b 5;simp only [aC.sh] at i g c k l m;exact ⟨⟨by omega,by omega⟩,⟨by omega,by omega⟩,⟨by omega,by omega⟩,⟨by omega,by omega⟩,⟨by omega,by omega⟩,⟨by omega,by omega⟩,⟨by omega,by omega⟩,⟨by omega,by omega⟩,⟨by omega,by omega⟩,⟨by omega,by omega⟩,⟨by omega,by omega⟩,⟨by omega,by omega⟩⟩
 ·have:=o3 x a;simp only [ay.ok,within,cU,bL] at this;exact ⟨⟨by omega,by omega⟩,⟨by omega,by omega⟩,⟨by omega,by omega⟩,⟨by omega,by omega⟩⟩
 ·have:=f.tok x a;simp only [mJ,aL.okB,rN,within,cU,iK,gM,bL] at this;exact ⟨⟨by omega,by omega⟩,⟨by omega,by omega⟩,⟨by omega,by omega⟩,⟨by omega,by omega⟩,⟨by omega,by omega⟩,⟨by omega,by omega⟩⟩
 ·have:=iG.1 (f.ok x a);exact ⟨⟨by omega,by omega⟩,⟨by omega,by omega⟩,⟨by omega,by omega⟩,Wy this.2.2.2.1⟩
 ·exact ⟨by omega,by omega⟩
 ·have g:=GC (Gi h.bu x a);have c:=t.2.1.1 x a;simp only [qG,cU] at c;simp only [cq.bz] at g;exact ⟨⟨by omega,by omega⟩,⟨by omega,by omega⟩,⟨by omega,by omega⟩,Wy c.2.1⟩
 ·have:=ij.1 (o.1 x a);exact ⟨⟨by omega,by omega⟩,⟨by omega,by omega⟩,⟨by omega,by omega⟩,⟨by omega,by omega⟩⟩
 ·have:=h.bH x a;simp only [wW,rN,within,cU,bL] at this;exact ⟨⟨by omega,by omega⟩,⟨by omega,by omega⟩,⟨by omega,by omega⟩,⟨by omega,by omega⟩,⟨by omega,by omega⟩⟩
 ·have:=u.1 x a;simp only [mg,within,cU,bL] at this;exact ⟨⟨by omega,by omega⟩,⟨by omega,by omega⟩,aJ,aJ,aJ,aJ,aJ,p x a⟩
theorem af.eo.good {s:af} (h:s.eo):s.good:=by
 have l:=h.right.lens;have h1:=l.ms;have h2:=l.ns;have h3:=l.xs;have h4:=l.ts;have h5:=l.qs;have h6:=l.bs;have h7:=l.ps;have h8:=l.calls;have h9:=l.bH;have h10:=l.aA;exact ⟨⟨⟨by omega,by omega,by omega⟩,⟨by omega,by omega⟩,by omega,by omega,by omega,by omega,by omega,h.fit⟩,h.right.n7 h.last h.fit,by omega,by omega,by omega,by omega,by omega⟩
def bE.lo (l:bE):Prop:=l.last<=1099511627776
theorem S8 {l:bE} {id:Int} {g:List aU} (h:gf l id g=0):(kR l id g).lo:=by
 unfold kR;rw [aq h];exact (S7 h).2.1.2
theorem Gp {s:af} (g:List aU) (h:s.bu.lo):(sF s g).bu.lo:=by
 unfold sF;split
 ·rename_i a;exact S8 a
 ·exact h
theorem OH {l:bE} {g:List aU} {e:Int} (h:l.lo) (a:(jj l g e).2=0):(jj l g e).1.lo:=by
 unfold jj at a |-;split
 ·rename_i b;rw [aq b] at a;exact S8 a
 ·exact h
theorem WV {s:af} {w:Int}:∀ (m i:Nat) (l:bE) (p:List aE),l.lo->(Ai s w m i l p).2.2=0->(Ai s w m i l p).1.lo
 | 0,_,_,_,h,_=>h
 | m+1,i,l,p,h,he=>by
  simp only [Ai] at he |-;split
  ·rename_i a;rw [aq a] at he;exact WV m _ _ _ (OH h a) he
  ·rename_i a;rw [ak a] at he;exact absurd he a
theorem W7 {s:af} (h:s.bu.lo) (c:Int):(wN s c).1.bu.lo:=by
 unfold wN;split
 ·exact Gp _ h
 ·exact h
theorem W6:∀ (m c:Nat) {s:af} (ds:List aE),s.bu.lo->(nB m c s ds).1.bu.lo
 | 0,_,_,_,h=>h
 | m+1,c,s,ds,h=>by
  simp only [nB];split
  ·exact W6 m _ _ (W7 h _)
  ·exact W7 h _
theorem ajM {s:af} (h:s.bu.lo) (c:aN):(wM s c).1.bu.lo:=by
 unfold wM;split
 case isFalse=>exact h
 split
 case isFalse=>exact h
 split
 ·exact Gp _ h
 split
 ·split
  ·exact Gp (s:=s) _ h
  ·exact Gp _ h
 ·exact Gp _ h
theorem Y7 {s:af} (h:s.bu.lo) (c:aN) (n:Int):(oq s c n).1.bu.lo:=by
 unfold oq;split
 case isFalse=>exact h
 split
 case isFalse=>exact h
 split
 case isFalse=>exact h
 split
 case isFalse=>exact h
 split
 ·exact h
 split
 ·exact h
 ·exact h
theorem adp {s:af} (h:s.bu.lo) (c:aN):(nD s c).1.bu.lo:=by
 unfold nD;split
 ·split<;>exact h
 split
 ·exact h
 split
 ·exact h
 split
 ·split<;>exact h
 ·exact h
theorem aia {s:af} (h:s.bu.lo) (c:aN):(uW s c).1.bu.lo:=by
 unfold uW;split
 case isFalse=>exact h
 split
 case isFalse=>exact h
 split
 ·exact h
 split
 case isFalse=>exact h
 split<;>exact h
theorem ZD {s:af} (h:s.bu.lo) (a:jF s=0):(lJ s).bu.lo:=by
 unfold lJ;rw [aq a];unfold jF at a;split at a
 case isFalse=>cases a
 split at a
 case isFalse=>cases a
 split at a
 case isFalse hne=>exact absurd a hne
 split at a
 case isFalse hne=>exact absurd a hne
 exact OH (l:=s.bu) h a
theorem YH {s:af} (h:s.bu.lo) (a:lG s=0):(kj s).bu.lo:=by
 unfold kj;rw [aq a];exact h
theorem afd {s:af} (h:s.bu.lo) (a:xV s=0):(uE s).bu.lo:=by
 unfold uE;rw [aq a];exact h
theorem afS {s:af} {n:Int} (h:s.bu.lo) (a:qk s n=0):(mD s n).bu.lo:=by
 unfold mD;rw [aq a];exact h
theorem ajK {s:af} {w:Int} (h:s.bu.lo) (a:BL s w=0):(DQ s w).bu.lo:=by
 unfold DQ;rw [aq a];exact WV 3 0 s.bu [] h (WT a).2.2.2
theorem abc {s:af} {c:aN} (h:s.bu.lo) (a:(dw s c).2.1=0):(dw s c).1.bu.lo:=by
 revert a;exact sL s c (P:=fun m=>m.2.1=0->m.1.bu.lo) (fun _=>h) (fun _=>h) (fun _=>h) (fun _=>ajM h c) (fun _=>Y7 h c _) (fun _=>Gp _ h) (fun _=>adp h c)
  (fun a=>ZD h a) (fun a=>YH h a) (fun a=>afd h a) (fun a=>afS h a) (fun _=>aia h c) (fun a=>ajK h a) (fun _=>W6 3 0 [] h) (fun _ _ _=>h)
theorem SC {s:af} {w:Int}:∀ (m c:Nat) (x:List aB × List aE),(rQ s w m c x).1.2.length<=x.2.length+m
 | 0,_,_=>dU _
 | m+1,c,x=>by
  simp only [rQ];split
  ·refine Nat.le_trans (SC m _ _) ?_;simp only [cm];have:(qA w c (TI s w c)).length<=1:=by unfold qA;split<;>simp
   omega
  ·dsimp only;omega
theorem Oq {s:af}:∀ (ws:List Int) (x:List aB × List aE),(vi s ws x).1.2.length<=x.2.length+3*ws.length
 | [],_=>dU _
 | w :: r,x=>by
  have h1:=SC (s:=s) (w:=w) 3 0 x;simp only [vi,length_cons];split
  ·have h2:=Oq (s:=s) r (rQ s w 3 0 x).1;omega
  ·omega
theorem WU {s:af} {w:Int}:∀ (m i:Nat) (l:bE) (p:List aE),(Ai s w m i l p).2.1.length<=p.length+m
 | 0,_,_,_=>dU _
 | m+1,i,l,p=>by
  simp only [Ai];split
  ·refine Nat.le_trans (WU m _ _ _) ?_;simp only [cm];have:(qA w i (kQ s w i).2.1).length<=1:=by unfold qA;split<;>simp
   omega
  ·dsimp only;omega
theorem Zj (s:af) (c:Int):(wN s c).1.aj=s.aj:=by
 unfold wN sF;split
 ·split<;>rfl
 ·rfl
theorem W5:∀ (m c:Nat) (s:af) (ds:List aE),(nB m c s ds).2.1.length<=ds.length+m*s.aj.ms.length
 | 0,_,_,_=>by simp [nB]
 | m+1,c,s,ds=>by
  simp only [nB];split
  ·refine Nat.le_trans (W5 m _ _ _) ?_;rw [Zj];have:=Hr s.bu s.aj c;simp only [cm,Nat.succ_mul];omega
  ·simp
theorem TG {s:af} (h:s.lens):(qW s).length<=1000:=by
 have hq:=h.qs;unfold qW fH;split
 ·have:=(WN (sG s.aj s.book)).2;have:(sG s.aj s.book).length<=s.book.qs.length:=by unfold sG;split<;>simp
  omega
 ·simp
theorem SE {s:af} (h:s.lens):(pK s).length<=1000:=by
 have hm:=h.ms;unfold pK YG;split
 ·have a:=Oq (s:=s) (ld s.aj [1]) (s.calls,[]);have h2:(ld s.aj [1]).length<=s.aj.ms.length:=gx _ _ _;simp only [length_nil] at a;omega
 ·simp
theorem ZU {s:af} (n:Int) (h:s.lens):(qj s n).length<=1000:=by
 have hc:=h.calls;unfold qj;split
 ·rw [qn];have:=Yq (s.now+n) s.calls;omega
 ·simp
theorem acm {s:af} (w:Int):(MR s w).length<=1000:=by
 unfold MR;split
 ·have:=WU (s:=s) (w:=w) 3 0 s.bu [];simp only [length_nil] at this;omega
 ·simp
theorem acn {s:af} (w:Int):(MS s w).length<=1000:=by
 unfold MS;split
 ·rw [Q3];omega
 ·simp
theorem MY {s:af} (h:s.lens):(nB 3 0 s []).2.1.length<=1000:=by
 have hm:=h.ms;have:=W5 3 0 s [];simp only [length_nil] at this;omega
theorem EH {s:af} {c:aN} (h:s.lens):(dw s c).2.2.2.2.1.length<=1000/\(dw s c).2.2.2.2.2.length<=1000:=by
 have z:([]:List aE).length<=1000/\([]:List dQ).length<=1000:=⟨Nat.zero_le _,Nat.zero_le _⟩
 exact sL s c (P:=fun m=>m.2.2.2.2.1.length<=1000/\m.2.2.2.2.2.length<=1000) z z z z z z z ⟨TG h,z.2⟩ ⟨SE h,z.2⟩ z ⟨ZU _ h,z.2⟩ z ⟨acm _,acn _⟩ ⟨MY h,z.2⟩ (fun _ _=>z)
theorem UK {s:af} {c:aN} (h:s.lens):(gY s c).2.fits:=by
 have hl:=EH (c:=c) h;unfold gY xw;split
 ·simp only [aT.fits];omega
 ·simp [aT.fits,aT.err]
theorem UJ {s:af} {c:aN} (h:s.eo):(gY s c).1.right/\(gY s c).1.bu.lo:=by
 refine ⟨RS h.right,?_⟩;unfold gY xw;split
 ·rename_i a;exact abc h.last a
 ·exact h.last
def qM (s:af) (c:aN) (r:aT) (i:Nat):List aO:=
 if (i:Int)+1=c.client then [⟨(i:Int)+1,c.seq,r⟩] else if 0<=ku ((i:Int)+1) s.aA 0 then [mR s (ku ((i:Int)+1) s.aA 0)] else []
def kH (s:af) (c:aN):af × aT:=if (ec s c).2 then (s,(ec s c).1) else ({ (gY s c).1 with aA:=rG (qM s c (gY s c).2) 8 },(gY s c).2)
theorem TA (n:Int):∀ (l:List aO) (k:Int),0<=k->0<=ku n l k->∃ (j:Nat) (h:j < l.length),ku n l k=k+j/\l[j].client=n
 | [],k,_,h=>by simp [ku] at h
 | x :: r,k,hk,h=>by
  simp only [ku] at h |-;split
  ·rename_i a;exact ⟨0,by simp,by simp,by simpa using a⟩
  ·rename_i a;rw [ak a] at h;obtain ⟨j,h1,b,c⟩:=TA n r (k+1) ah h;exact ⟨j+1,by simp;omega,by rw [b];omega,by simpa using c⟩
theorem vE {s:af} {n:Int} (h:0<=ku n s.aA 0):mR s (ku n s.aA 0)∈s.aA/\(mR s (ku n s.aA 0)).client=n:=by
 obtain ⟨j,a,e,b⟩:=TA n s.aA 0 ah h;unfold mR;rw [e,Int.zero_add,Int.toNat_natCast,getD_eq_getElem?_getD,fO a];exact ⟨ck a,b⟩
theorem yR {x:aO}:mg x=true ↔ (1<=x.client/\x.client<=8)/\1<=x.seq/\x.seq<=1099511627776:=by
 simp only [mg,within,cU,bL]
theorem RW {c:aN} (h:fC c=0):(1<=c.kind/\c.kind<=22)/\1<=c.client/\c.client<=8:=by
 unfold fC at h;split at h
 case isFalse=>cases h
 rename_i a;split at h
 case isFalse=>cases h
 split at h
 case isFalse=>cases h
 split at h
 case isFalse=>cases h
 rename_i b;simp only [within,cU,bL] at a b;exact ⟨a,b⟩
theorem va {c:aN} {last:Int} (h:(jh c last).2=false) (hl:0<=last/\last<=1099511627776):c.seq=last+1/\c.seq<=1099511627776:=by
 unfold jh at h;split at h
 case isFalse=>cases h
 rename_i a;split at h
 ·cases h
 rename_i h2;rw [gA ah ah] at a;omega
theorem uv {s:af} {c:aN} (g:s.right) (h:(ec s c).2=false):fC c=0/\1<=c.seq/\c.seq<=1099511627776:=by
 have a:=(jA (lt:=fW) jX).1 g.aA;unfold ec at h;split at h
 case isFalse=>cases h
 rename_i b;split at h
 ·rename_i f;have hm:=yR.1 (a.1 _ (vE f).1);split at h
  ·cases h
  split at h
  ·cases h
  have:=va h ah;exact ⟨b,by omega,this.2⟩
 ·have:=va h ah;exact ⟨b,by omega,this.2⟩
theorem xx (s:af) (c:aN) (hs:s.eo):∀ i,i < 8->∀ x∈qM s c (gY s c).2 i,x.client=(i:Int)+1/\(x∈s.aA\/x=⟨c.client,c.seq,(gY s c).2⟩):=by
 intro i hi x a;unfold qM at a;split at a
 ·rename_i h;obtain rfl:=ga.1 a;exact ⟨rfl,.inr (by rw [h])⟩
 ·split at a
  ·rename_i h;obtain rfl:=ga.1 a;exact ⟨(vE h).2,.inl (vE h).1⟩
  ·cases a
theorem aba {s:af} {c:aN} (h:s.eo):(kH s c).1.eo:=by
 unfold kH;split
 ·exact h
 rename_i q;obtain ⟨f,k1,k2⟩:=uv h.right (by simpa using q);obtain ⟨b,o⟩:=UJ (c:=c) h;have k:=xx s c h;have m:=(jA (lt:=fW) jX).1 h.right.aA;have g:=UK (c:=c) h.right.lens;have hcl:=RW f;refine ⟨⟨b.NI,b.aj,b.book,b.bu,b.ps,b.calls,b.known,b.bl,b.bH,(jA (lt:=fW) jX).2 ⟨fun x a=>?_,?_⟩⟩,o,fun x a=>?_⟩
 ·obtain ⟨i,l,a⟩:=fR.1 a;rcases (k i l x a).2 with a | rfl
  ·exact m.1 x a
  ·rw [yR];dsimp only;omega
 ·refine vv (fun i l=>x9 ?_) fun i j hij p x a y r=>?_
  ·unfold qM;split;simp;split<;>simp
  ·have h1:=(k i ah x a).1;have h2:=(k j p y r).1;simp only [fW,bL];omega
 ·obtain ⟨i,l,a⟩:=fR.1 a;rcases (k i l x a).2 with a | rfl
  ·exact h.fit x a
  ·exact g
theorem Pc:af.zero.eo:=⟨eW.1 rfl,by decide,fun x a=>by cases a⟩
theorem Uv (c:aN):(rA c).client=c.client/\(rA c).seq=c.seq/\(rA c).kind=c.kind:=by
 have f:∀ {p:Prop} [Decidable p] {a b:aN},(a.client=c.client/\a.seq=c.seq/\a.kind=c.kind)->(b.client=c.client/\b.seq=c.seq/\b.kind=c.kind)->((if p then a else b).client=c.client/\(if p then a else b).seq=c.seq/\(if p then a else b).kind=c.kind):=fun ha hb=>by split<;>assumption
 unfold rA;repeat' first
  | exact ⟨rfl,rfl,rfl⟩
  | refine f ?_ ?_
theorem wr1:IntKind.wrap .i64 1=1:=gA ah ah
theorem AR (s:af) (c:aN) (hr:s.right) (H:∀ x∈s.aA,jE x):Sq 90 [.box s.cells] [.addr 0 0,.agg c.cells] [.box s.cells] (.bT [.agg (ec s c).1.cells,.bool (!(ec s c).2)]):=by
 have f:=form_eq c;obtain ⟨K,a⟩:=aQ (ec s c);rw [<- a];simp only [ec] at a;by_cases O:1<=c.kind/\c.kind<=22
 case neg =>
  have e:fC c=21:=by rw [f,ak];simp [within];omega
  rw [e,ak (by decide)] at a;rw [a];obtain ⟨b,c1⟩:=XH c O;clear a f e O;obtain ⟨ab,sq,kind,who,o,no,inst,cur,aZ,aH,br,s0,s1,s2,s3,s4,s5⟩:=c;simp only [aN.cells] at c1 |-;simp only [af.cells,aT.cells,aT.err];refine bf 96 2 [.cell 4 62,.tmp 5] mixed func90 ?_;simp only [go_sem,seval];refine aD.bp c1 ?_;simp only [go_sem,seval];all_goals simp
 have c1:=XI c O;rw [aq (by simp [within];omega)] at f;have A:=Uv c;obtain ⟨b,hb⟩:=aQ (rA c);rw [<- hb] at c1 A f;clear hb O;have C:=fun h=>Cy s c.client (ia hr).1 (ia hr).2 h (by have:=hr.lens.aA;omega);obtain ⟨E,F⟩:=ia hr;obtain ⟨sa,sb⟩:=vF (w:=c.client) E;obtain ⟨z,m⟩:=aQ (AJ b);rw [<- m] at f;obtain ⟨ab,sq,kind,who,o,no,inst,cur,aZ,aH,br,s0,s1,s2,s3,s4,s5⟩:=c;obtain ⟨j,g,J,b4,b5,b6,b7,b8,b9,T,U,V,W,X,Y,Z,aa⟩:=b;dsimp only at A f C sa sb a;obtain ⟨rfl,rfl,rfl⟩:=A;simp only [aN.cells] at c1 |-
 by_cases q1:j < 1
 ·have d:decide (j < 1)=true:=dI q1;have e:fC ⟨j,g,J,who,o,no,inst,cur,aZ,aH,br,s0,s1,s2,s3,s4,s5⟩=6:=by rw [f,ak];simp [within];omega
  rw [e,ak (by decide)] at a;rw [a];simp only [af.cells,aT.cells,aT.err];refine bf 96 2 [.cell 4 62,.tmp 5] mixed func90 ?_;refine sc aJ c1 ?_;refine sm d ?_;all_goals simp
 have q:decide (j < 1)=false:=eJ q1;by_cases q2:8 < j
 ·have d:decide (8 < j)=true:=dI q2;have e:fC ⟨j,g,J,who,o,no,inst,cur,aZ,aH,br,s0,s1,s2,s3,s4,s5⟩=6:=by rw [f,ak];simp [within];omega
  rw [e,ak (by decide)] at a;rw [a];simp only [af.cells,aT.cells,aT.err];refine bf 96 2 [.cell 4 62,.tmp 5] mixed func90 ?_;refine sc aJ c1 ?_;refine sm (a2 q d) ?_;all_goals simp
 have v:decide (8 < j)=false:=eJ q2;have D:within j 1 8=true:=by simp [within];omega
 rw [D,Bool.and_true] at f;cases t:z
 ·have e:fC ⟨j,g,J,who,o,no,inst,cur,aZ,aH,br,s0,s1,s2,s3,s4,s5⟩=6:=by rw [f,t];rfl
  rw [e,ak (by decide)] at a;rw [a];have N:(b4==0&&(b5==0&&(b6==0&&(b7==0&&(b8==0&&(b9==0&&(T==0&&(U==0&&(V==0&&(W==0&&(X==0&&(Y==0&&(Z==0&&aa==0)))))))))))))=false:=by
   rw [t] at m;have m:=m.symm;rw [AJ,gM] at m;rw [Bool.eq_false_iff];intro h;simp only [cU,eH] at h;exact m h
  simp only [af.cells,aT.cells,aT.err];refine bf 96 2 [.cell 4 62,.tmp 5] mixed func90 ?_;refine sc aJ c1 ?_;simp only [go_sem,seval,q,v,bne,beq_self_eq_true,N];all_goals simp
 have e:fC ⟨j,g,J,who,o,no,inst,cur,aZ,aH,br,s0,s1,s2,s3,s4,s5⟩=0:=by rw [f,t];rfl
 rw [e,aq rfl] at a;rw [t] at m;have m:=of_decide_eq_true m.symm;dsimp only at m;obtain ⟨rfl,rfl,rfl,rfl,rfl,rfl,rfl,rfl,rfl,rfl,rfl,rfl,rfl,rfl⟩:=m;have c2:=C ⟨by omega,by omega⟩;clear f e C D;have N:∀ last:Int,0<=last/\last<=1099511627776->IntKind.wrap .i64 (last+1)=last+1:=fun last h=>gA ah ah;simp only [af.cells] at c2;cases M:Si j s.aA
 ·rw [M] at c2;obtain ⟨hn,-⟩:=sb M;rw [ak ah] at a;simp only [jh] at a;have h0:=N 0 ah;rw [h0] at a;by_cases u:g=0+1
  ·have p:(g==1)=true:=by simpa using u
   rw [aq u,ak ah] at a;have y:decide (1099511627776 < g)=false:=jL;rw [a];simp only [af.cells,aT.cells,aT.err];refine bf 96 2 [.cell 4 62,.tmp 5] mixed func90 ?_;refine sc aJ c1 ?_;refine sg [0] (a3 q v (beq_self_eq_true (0:Int))) c2 ?_;simp only [go_sem,seval,bne,wr1,p,y];all_goals simp
  ·have p:(g==1)=false:=by simpa using u
   rw [ak u] at a;rw [a];simp only [af.cells,aT.cells,aT.err];refine bf 96 2 [.cell 4 62,.tmp 5] mixed func90 ?_;refine sc aJ c1 ?_;refine sg [0] (a3 q v (beq_self_eq_true (0:Int))) c2 ?_;simp only [go_sem,seval,bne,wr1,p];all_goals simp
 rw [M] at c2;obtain ⟨k,ac,hL⟩:=sa M;obtain ⟨i,hi⟩:=aQ (putAt aO.client j s.aA);have k:i < s.aA.length:=by rw [hi];exact k
 rw [<- hi] at c2 hL;rw [hL,aq ah] at a;have G:mR s (i:Int)=s.aA[i]:=by simp [mR,k]
 rw [G] at a;have B:=aV (c:=aO.cells) s.aA k;have hx:=H _ (ck k);have ad:=yR.1 (((jA (lt:=fW) jX).1 hr.aA).1 _ (ck k));obtain ⟨x,I⟩:=aQ (s.aA[i]);rw [<- I] at a B hx ad;have c3:=TW x.r hx;simp only [aO.cells] at B;simp only [aT.cells] at c3;have hli:(i:Int) < (s.aA.length:Int):=ah
 have l:(s.aA.map aO.cells).length=s.aA.length:=qn ..;clear hi ac hL G I sa sb E F H hx;by_cases u:g=x.seq
 ·have p:(g==x.seq)=true:=by simpa using u
  rw [aq u] at a;rw [a];simp only [af.cells,aT.cells,aT.err];refine bf 96 2 [.cell 4 62,.tmp 5] mixed func90 ?_;refine sc aJ c1 ?_;refine sg [0] (a3 q v (beq_self_eq_true (0:Int))) c2 ?_;refine sm (a3 B l p) ?_;(with_reducible and_intros)<;>first|exact .dq|omega|skip
  refine aD.bp c3 ?_;simp only [go_sem,seval];all_goals simp
 have p:(g==x.seq)=false:=by simpa using u
 rw [ak u] at a;by_cases Q:g < x.seq
 ·have y:decide (g < x.seq)=true:=dI Q;rw [aq Q] at a;rw [a];simp only [af.cells,aT.cells,aT.err];refine bf 96 2 [.cell 4 62,.tmp 5] mixed func90 ?_;refine sc aJ c1 ?_;refine sg [0] (a3 q v (beq_self_eq_true (0:Int))) c2 ?_;refine sm (a4 B l p y) ?_;(with_reducible and_intros)<;>first|exact .dq|omega|skip
  all_goals simp
 have y:decide (g < x.seq)=false:=eJ Q;have D:=N x.seq ah;rw [ak Q] at a;simp only [jh,D] at a;by_cases R:g=x.seq+1
 case neg =>
  have L:(g==x.seq+1)=false:=by simpa using R
  rw [ak R] at a;rw [a];simp only [af.cells,aT.cells,aT.err];refine bf 96 2 [.cell 4 62,.tmp 5] mixed func90 ?_;refine sc aJ c1 ?_;refine sg [0] (a3 q v (beq_self_eq_true (0:Int))) c2 ?_;simp only [go_sem,seval,B,l,bne,p,y,D,L];(with_reducible and_intros)<;>first|exact .dq|omega|skip
  all_goals simp
 have L:(g==x.seq+1)=true:=by simpa using R
 rw [aq R] at a;by_cases S:1099511627776 < g
 ·have d6:decide (1099511627776 < g)=true:=dI S;rw [aq S] at a;rw [a];simp only [af.cells,aT.cells,aT.err];refine bf 96 2 [.cell 4 62,.tmp 5] mixed func90 ?_;refine sc aJ c1 ?_;refine sg [0] (a3 q v (beq_self_eq_true (0:Int))) c2 ?_;simp only [go_sem,seval,B,l,bne,p,y,D,L,d6];(with_reducible and_intros)<;>first|exact .dq|omega|skip
  all_goals simp
 ·have d6:decide (1099511627776 < g)=false:=eJ S;rw [ak S] at a;rw [a];simp only [af.cells,aT.cells,aT.err];refine bf 96 2 [.cell 4 62,.tmp 5] mixed func90 ?_;refine sc aJ c1 ?_;refine sg [0] (a3 q v (beq_self_eq_true (0:Int))) c2 ?_;simp only [go_sem,seval,B,l,bne,p,y,D,L,d6];(with_reducible and_intros)<;>first|exact .dq|omega|skip
  all_goals simp
theorem Mr (xs:List aO) (hl:xs.length < 2 ^ 30):Sq 93 [] [.sl 7 (xs.map aO.cells)] [.own 7 (xs.map aO.cells)] (.ref 0):=by
 refine bf 8 1 [.tmp 2] mixed func93 ?_;refine s0 ?_;refine dH.v9 aqa rfl ah ?_;intro b a;repeat' with_reducible first|apply And.intro|exact .dq|refine aD.bp (by assumption) ?_|refine pq (fun h=>?_) fun h=>?_|refine .id ?_|refine av.eS ah ?_ ?_|exact aJ|simp only [*,go_sem,seval,qn]
 all_goals first
  | omega
  | (rw [a (by assumption)])
  | skip
def qN:List D:=[.I 0,.I 0,.I 0,.I 0,.I 0,.nil,.nil]
theorem Zq (x:aO):sn 7 x.cells:=⟨rfl,fun d a=>by simp only [aO.cells,mem_cons,not_mem_nil,or_false] at a;rcases a with rfl | rfl | rfl | rfl | rfl | rfl | rfl<;>simp [go_sem,seval,bG,dZ,D.names],fun d a=>by simp only [aO.cells,mem_cons,not_mem_nil,or_false] at a;rcases a with rfl | rfl | rfl | rfl | rfl | rfl | rfl<;>rfl⟩
theorem acO:sn 7 qN:=⟨rfl,fun d a=>by simp only [qN,mem_cons,not_mem_nil,or_false] at a;rcases a with rfl | rfl | rfl | rfl | rfl | rfl | rfl<;>simp [go_sem,seval,bG,dZ,D.names],fun d a=>by simp only [qN,mem_cons,not_mem_nil,or_false] at a;rcases a with rfl | rfl | rfl | rfl | rfl | rfl | rfl<;>rfl⟩
theorem abE:Xw (fun t=>if t=36 then 39 else t) (fun k=>if k=322 then 94 else if k=357 then 198 else if k=358 then 199 else k) 7 88 (qN) Tryz.f198 where
 rn:=nC func322 func94
 t0:=bD
 t3:=bD
 t4:=bD
 np:=bD
 pos:=ah
 big:=ah
 sl:=aqa
 zel:=aqo
 zc:=acO
 o1:=func198
 o2:=bD
 o3:=bD
 o4:=bD
 o5:=bD
 o6:=bD
theorem PZ (xs:List aO) (i:Nat) (b:xs.length < 2 ^ 30) (a:i<=xs.length):Sq 94 [.own 7 (xs.map aO.cells),.own 7 [qN]] [.ref 0,.I i,.ref 1] [.undef,.undef,.own 7 ((xs.take i).map aO.cells++[qN]++(xs.drop i).map aO.cells)] (.ref 2):=by
 have:=ur abE (xs.map aO.cells) qN i (by simpa using b) (by simpa using a) (fun r hr=>by obtain ⟨y,_,rfl⟩:=mem_map.1 hr;exact Zq y) acO;rw [show (xs.take i).map aO.cells++[qN]++(xs.drop i).map aO.cells=(xs.map aO.cells).take i++[qN]++(xs.map aO.cells).drop i by simp];exact this
theorem TB {s:af} (hr:s.right) (c:aN) (r:aT):∀ i:Nat,i < 8->qM s c r i=if (i:Int)+1=aO.client ⟨c.client,c.seq,r⟩ then [⟨c.client,c.seq,r⟩] else if decide (0<=jt aO.client ((i:Int)+1) s.aA)=true then [iE aO.client ((i:Int)+1) aO.zero s.aA] else []:=by
 obtain ⟨g,j⟩:=ia hr;intro i hi;unfold qM;by_cases h:(i:Int)+1=c.client
 ·rw [aq h,aq h,h]
 ·rw [ak h,ak h];obtain ⟨k,a2⟩:=vF (w:=(i:Int)+1) g;cases f:Si ((i:Int)+1) s.aA
  ·obtain ⟨a,b⟩:=a2 f;rw [ak ah,ak];intro m;obtain ⟨x,j,e⟩:=qd.1 m;exact b x j e
  ·obtain ⟨a,b,l⟩:=k f;rw [l,aq ah,aq (qd.2 ⟨_,ck a,b⟩),sP g (ck a) b];simp [mR,a]
theorem Zz {s:af} (hr:s.right) {c:aN} (i:1<=c.client/\c.client<=8) (r:aT) (h:Si c.client s.aA=true):s.aA.set (putAt aO.client c.client s.aA) ⟨c.client,c.seq,r⟩=rG (qM s c r) 8:=by
 obtain ⟨b,j⟩:=ia hr;obtain ⟨f,g,-⟩:=(vF (w:=c.client) b).1 h;exact Xe (z:=aO.zero) (m:=⟨c.client,c.seq,r⟩) b (fun x a=>by have:=j x a;exact ⟨this.1,by omega⟩) ⟨i.1,by show c.client<=_;omega⟩ (TB hr c r) f g
theorem Zy {s:af} (hr:s.right) {c:aN} (j:1<=c.client/\c.client<=8) (r:aT) (h:Si c.client s.aA=false):s.aA.take (putAt aO.client c.client s.aA)++[⟨c.client,c.seq,r⟩]++s.aA.drop (putAt aO.client c.client s.aA)=rG (qM s c r) 8:=by
 obtain ⟨f,l⟩:=ia hr;have k:=((vF (w:=c.client) f).2 h).2;obtain ⟨o,p,q⟩:=iQ (n:=c.client) f
 exact IZ (z:=aO.zero) (m:=⟨c.client,c.seq,r⟩) f (fun x g=>by have:=l x g;exact ⟨this.1,by omega⟩) ⟨j.1,by show c.client<=_;omega⟩ (TB hr c r) o (fun i a=>p i ah a) (fun i a b=>by
  have h1:=q i a b;have h2:=k _ (ck a);show c.client < _
  omega)
theorem wC (t:Int) (l:List Int) (hl:l.length < 2 ^ 30):Sq 371 [] [.I t,.sl 1 (ints l)] [] (.I (mO t l)):=by
 have c1:=bY [t] (by simp);have c2:=bY l ah;rw [tQ] at c1;simp only [ints,map_cons,map_nil] at c1;refine bf 32 2 [.tmp 4] mixed func371 ?_;by_cases m:t < 0
 ·have d:decide (t < 0)=true:=dI m;have e:mO t l=3:=by simp [mO,m]
  rw [e];simp only [go_sem,seval,d]<;>simp
 have g:decide (t < 0)=false:=eJ m;obtain ⟨A,o⟩:=aQ (bQ t);obtain ⟨B,p⟩:=aQ (right l);obtain ⟨E,b⟩:=aQ (mO t l);rw [<- b];simp only [mO,g,<- o,<- p] at b;rw [<- o] at c1;rw [<- p] at c2;cases A
 ·have e:E=3:=by simpa using b
  rw [e];refine Xh g c1
 refine sl g c1 ?_;cases B
 ·have e:E=3:=by simpa using b
  rw [e];refine jW aJ c2
 have e:E=if Lb l then (if 1024 < l.length then 5 else 0) else 3:=by simpa using b
 rw [e];refine sc aJ c2 ?_;simp only [go_sem,seval,aW];refine aM.w1 l.length 22 [1,20,21] [352] (fun i _=>Lb (l.drop i)=Lb l) rfl ?_ ?_
 ·intro i _ h c k a;have j:=ints_at l h;have hli:(i:Int) < (l.length:Int):=ah
  obtain ⟨x,r⟩:=aQ (l[i]);rw [fZ h,<- r] at a;rw [<- r] at j;have s:Lb (x :: l.drop (i+1))=(!decide (x < 0)&&Lb (l.drop (i+1))):=rfl;rw [s] at a;by_cases q:x < 0
  ·have d:decide (x < 0)=true:=dI q;rw [d,Bool.not_true,gV] at a;rw [<- a];simp only [go_sem,seval,aW,c,j,d];(with_reducible and_intros)<;>first|exact .dq|omega|skip
   all_goals simp [ints]
  ·have d:decide (x < 0)=false:=eJ q;rw [d,Bool.not_false,fc] at a;simp only [go_sem,seval,aW,c,j,d,k];refine dP ?_;refine av.u h a ?_;exact gU
 ·intro _ f a;have a:Lb l=true:=by rw [<- a,nx];rfl
  rw [a];by_cases q:1024 < l.length
  ·have d:decide ((1024:Int) < (l.length:Int))=true:=iC;simp only [go_sem,seval,aW,f,d,aq q]<;>simp
  ·have d:decide ((1024:Int) < (l.length:Int))=false:=jL;simp only [go_sem,seval,aW,f,d,ak q]<;>simp
theorem UR (t:Int) (l:List Int) (p:l.length < 2 ^ 30):Sq 336 [] [.I t,.sl 1 (ints l)] [.own 1 (ints (if mO t l=0 then Dz t l else []))] (.bT [.ref 0,.I (if mO t l=0 then Ik t l else 0),.I (mO t l)]):=by
 have c1:=wC t l p;refine bf 35 2 [.tmp 4,.tmp 5,.tmp 6] mixed func336 ?_;by_cases b:mO t l=0
 case neg =>
  have d:(mO t l==0)=false:=by simpa using b
  rw [ak b,ak b];refine sc aJ c1 ?_;simp only [go_sem,seval,bne,d]<;>simp [ints]
 rw [aq b,aq b,b];rw [b] at c1;unfold mO at b;split at b
 case isFalse=>cases b
 rename_i a;split at b
 case isFalse=>cases b
 rename_i c;simp only [cU,iK,gM] at a;have g:=fun x f=>bI.1 (dn.1 a.2 x f);have htin:=bI.1 a.1.2;have ht0:=a.1.1;have j:∀ x∈l,0<=x:=fun x f=>by
  have:=dn.1 c x f;simp only [iK,gM] at this;omega
 clear a c b;refine sc aJ c1 ?_;simp only [go_sem,seval,aW];refine aM.uB (S:=Int × List Int) l.length [16,17] [288] (fun i s=>[(18,.I i),(0,.I s.1),(4,.ref 464)]) (fun i s=>[(464,.own 1 (ints s.2))]) (fun i s=>(s.2++Dz s.1 (l.drop i)=Dz t l/\Ik s.1 (l.drop i)=Ik t l)/\(0<=s.1/\s.1<=t)/\s.2.length=i) (t,[]) ⟨⟨rfl,rfl⟩,by omega,rfl⟩ ?_ ?_ ?_
 ·simp only [go_sem,seval]<;>simp [ints]
 ·rintro i ⟨u,L⟩ hi hdi hwi ⟨⟨a,c⟩,h3,h4⟩;dsimp only at a c h3 h4;have o:=ints_at l hi;have hli:(i:Int) < (l.length:Int):=ah
  have k:=g _ (ck hi);have m:=j _ (ck hi);obtain ⟨x,f⟩:=aQ (l[i]);rw [fZ hi,<- f] at a c;rw [<- f] at o k m;simp only [Dz,Ik] at a c;have q:IntKind.wrap .i64 (u-min u x)=u-min u x:=gA ah ah;have h:min x u=min u x:=ah
  simp only [go_sem,seval,aW,hdi,o,h,q,hwi];refine dP ?_;refine av.kW (u-min u x,L++[min u x]) hi ⟨⟨by rw [cQ];exact a,c⟩,by omega,by simp [h4]⟩ ?_;simp only [go_sem,seval]<;>simp [ints]
 ·rintro ⟨u,L⟩ hdx ⟨⟨a,c⟩,h3,h4⟩;dsimp only at a c;rw [nx] at a c;simp only [Dz,Ik,append_nil] at a c;simp only [go_sem,seval,aW,hdx,if_true,<- a,<- c];all_goals simp
theorem R3 (t:Int) (l:List Int) (a:l.length < 2 ^ 30):Sq 336 [] [.I t,.sl 1 (ints l)] [] (.bT [.sl 1 (ints (if mO t l=0 then Dz t l else [])),.I (if mO t l=0 then Ik t l else 0),.I (mO t l)]):=by
 refine Spec.frozen (UR t l a) [0] rfl ?_;intro r;rcases r with _ | r<;>rfl
theorem YK (a b:aP) (n:Int):Sq 280 [] [.agg a.cells,.agg b.cells,.I n] [.own 4 ((cg a b n).map aU.cells)] (.ref 0):=by
 have c1:=bY [n] (by simp);rw [tQ] at c1;simp only [ints,map_cons,map_nil] at c1;simp only [aP.cells];refine bf 19 3 [.tmp 6] mixed func280 ?_;obtain ⟨A,c⟩:=aQ (bQ n);rw [<- c] at c1;have f:IntKind.wrap .i64 0=0:=rfl;cases A
 ·refine sl aJ c1 ?_;simp only [go_sem,seval,cg,<- c]<;>simp [f]
 ·have hr:=bI.1 c.symm;have w:IntKind.wrap .i64 (0-n) = -n:=gN;refine sl aJ c1 ?_;simp only [go_sem,seval,cg,<- c,w]<;>simp
def LU : Array Value -> Sem Value := (Extern.MathBitsCarry.rows.getD 1 ("", fun _ => pure (.tuple #[]))).2
theorem afC {P:Program} (x y b:Nat) (hb:b<=1) (w:World):(LU #[.int .u64 x,.int .u64 y,.int .u64 b]).run P w=.ok (.tuple #[.int .u64 (((x+18446744073709551616-y-b)%18446744073709551616:Nat):Int),.int .u64 ((if x < y+b then 1 else 0:Nat):Int)]) w:=by
 have:b=0\/b=1:=ah
 rcases this with rfl | rfl<;>rfl
theorem TO:Extern.find Tryz.f406=some LU:=bD
theorem TP:Extern.findNext Tryz.f406=none:=bD
section
variable {P:Program} {n:Nat} {e:Env} {K:Env->Prop} {ty:TypeId} {pos:String} {after:Array Edge} {gu:Option (Nat × Bool)} {d:Nat}
theorem apZ {f x y c : Operand} {k : FuncId} {fn : Func} {ts : Array TypeId} {i j m : Nat} (hf : rd e f = .fn k []) (hk : P.funcs[k]? = some fn) (hname : (fn.name == "runtime.NumGoroutine") = false) (hb : fn.body.isNone = true) (hn : Extern.findNext fn = none) (he : Extern.find fn = some LU)
  (hx:rd e x=.int .u64 i) (hy:rd e y=.int .u64 j) (hc:rd e c=.int .u64 m) (h4:m<=1) (hd:d < n) (hK:K (bP e d (.bT [.int .u64 (((i+18446744073709551616-j-m)%18446744073709551616:Nat):Int),.int .u64 ((if i < j+m then 1 else 0:Nat):Int)]))) :
  dH P n ⟨some d,.call ⟨.value f,#[x,y,c],ts⟩,ty,pos,after,gu⟩ e K:=by
 intro w0 l0 G S0 w lev own S a next Q h hnn hdf hnext
 have hof:=h.uS a rfl f;have ho1:=h.uS a rfl x;have ho2:=h.uS a rfl y;have ho3:=h.uS a rfl c;rw [hf] at hof;rw [hx] at ho1;rw [hy] at ho2;rw [hc] at ho3;obtain ⟨cv,hv,hcs,hcc⟩:=hof.Bw;have hcv:cv = #[]:=Array.eq_empty_of_size_eq_zero (by simpa using hcs);subst hcv;have hm:(#[x,y,c].map a.eval:Array Value) = #[.int .u64 i,.int .u64 j,.int .u64 m]:=by simp [ho1.dK,ho2.dK,ho3.dK]
 refine upon_value rfl (Bu hv hk hname hb hn he (by rw [hm];exact afC i j m h4 w)) (fk hnn hdf hnext hd (h.put (.bT _ _ rfl ?_)) hK);intro i' v dd hi' hd';rcases i' with _ | _ | i'
 ·simp at hi' hd';subst hi';subst hd';exact .int _ _
 ·simp at hi' hd';subst hi';subst hd';exact .int _ _
 ·simp at hi'
end
def gd (g:Nat):List D:=[.int .u64 ((g / 18446744073709551616:Nat):Int),.int .u64 ((g%18446744073709551616:Nat):Int)]
theorem UP (g n:Nat) (hn:n < 18446744073709551616) (h:g+n < 340282366920938463463374607431768211456):Sq 395 [] [.agg (gd g),.int .u64 n] [] (.agg (gd (g+n))):=by
 simp only [gd];refine bf 20 2 [.cell 4 435] mixed func395 ?_;refine s0 ?_;refine aD.sem rfl ?_;with_reducible refine dH.Ns (k:=299) (fn:=Tryz.f299) (i:=((g%18446744073709551616:Nat):Int)) (j:=n) (m:=0) ?_ func299 ?_ ?_ ue ud ?_ ?_ ?_ ?_ ?_ ?_ ?_ ?_ ?_
 iterate 11 (first | rfl | omega)
 have a:(((g%18446744073709551616:Nat):Int)+n+0)%18446744073709551616=(((g+n)%18446744073709551616:Nat):Int):=ah
 have e2:IntKind.wrap .u64 (((g / 18446744073709551616:Nat):Int)+(((g%18446744073709551616:Nat):Int)+n+0) / 18446744073709551616)=(((g+n) / 18446744073709551616:Nat):Int):=by rw [IntKind.wrap_u64];omega
 exact fL (a2 a e2)
theorem UO (a b:Nat) (hb:b<=a) (ha:a < 340282366920938463463374607431768211456):Sq 401 [] [.agg (gd a),.agg (gd b)] [] (.agg (gd (a-b))):=by
 simp only [gd];refine bf 29 2 [.cell 4 435] mixed func401 ?_;refine s0 ?_;refine aD.sem rfl ?_;with_reducible refine apZ (k:=406) (fn:=Tryz.f406) (i:=a%18446744073709551616) (j:=b%18446744073709551616) (m:=0) ?_ func406 ?_ ?_ TP TO ?_ ?_ ?_ ?_ ?_ ?_
 iterate 8 (first | rfl | omega)
 refine s0 ?_;refine aD.sem rfl ?_;with_reducible refine apZ (k:=406) (fn:=Tryz.f406) (i:=a / 18446744073709551616) (j:=b / 18446744073709551616) (m:=if a%18446744073709551616 < b%18446744073709551616+0 then 1 else 0) ?_ func406 ?_ ?_ TP TO ?_ ?_ ?_ ?_ ?_ ?_
 iterate 6 (first | rfl | omega)
 ·split<;>omega
 ·omega
 have c:(a%18446744073709551616+18446744073709551616-b%18446744073709551616-0)%18446744073709551616=(a-b)%18446744073709551616:=ah
 have e2:(a / 18446744073709551616+18446744073709551616-b / 18446744073709551616-(if a%18446744073709551616 < b%18446744073709551616+0 then 1 else 0))%18446744073709551616=(a-b) / 18446744073709551616:=by split<;>omega
 rw [e2,c];exact gU
theorem G5 (x:Int):Sq 409 [] [.int .u64 x] [] (.bool false):=by
 refine bf 6 1 [.tmp 2] mixed func409 ?_;simp only [go_sem,seval,bne,beq_self_eq_true,Bool.not_true]
theorem lD (x y:Int):Sq 403 [] [.int .u64 x,.int .u64 y] [] (.I (eM x y)):=by
 have b:=G5 x;have c:=G5 y;refine bf 20 2 [.tmp 4] mixed func403 ?_;refine sc aJ b ?_;refine aD.bp c ?_;simp only [eM];rcases Int.lt_or_le x y with h | h
 ·have d:decide (x < y)=true:=dI h;simp only [go_sem,seval,d,aq h]
 ·have d:decide (x < y)=false:=jL;rw [ak ah];rcases Int.lt_or_le y x with h3 | h3
  ·have a:decide (y < x)=true:=dI h3;simp only [go_sem,seval,d,a,aq h3]
  ·have a:decide (y < x)=false:=jL;simp only [go_sem,seval,d,a,ak (by omega:¬ y < x)]
theorem MB (a b:Nat):Sq 399 [] [.agg (gd a),.agg (gd b)] [] (.I (eM a b)):=by
 have f:=lD ((a / 18446744073709551616:Nat):Int) ((b / 18446744073709551616:Nat):Int);have g:=lD ((a%18446744073709551616:Nat):Int) ((b%18446744073709551616:Nat):Int);have c:=oH (eM ((a / 18446744073709551616:Nat):Int) ((b / 18446744073709551616:Nat):Int)) (eM ((a%18446744073709551616:Nat):Int) ((b%18446744073709551616:Nat):Int));have e:(if eM ((a / 18446744073709551616:Nat):Int) ((b / 18446744073709551616:Nat):Int)=0 then eM ((a%18446744073709551616:Nat):Int) ((b%18446744073709551616:Nat):Int) else eM ((a / 18446744073709551616:Nat):Int) ((b / 18446744073709551616:Nat):Int))=eM a b:=by
  unfold eM;repeat' split
  all_goals omega
 rw [e] at c;simp only [gd];refine bf 17 2 [.tmp 4] mixed func399 ?_;refine sc aJ f ?_;refine sc aJ g ?_;exact Xh aJ c
theorem Pb {x:Nat} (h:x < 18446744073709551616):IntKind.wrap .u64 (x:Int)=x:=by rw [IntKind.wrap_u64];omega
theorem K3 (x:Nat):BitVec.ofInt 64 (x:Int)=BitVec.ofNat 64 x:=by simp
theorem ah' (x s:Nat) (hs:s < 64):Af .u64 (x:Int) (s:Int)=((x / 2 ^ s:Nat):Int):=by
 show (x:Int).fdiv (2 ^ (min (s:Int).toNat 64))=_;rw [Int.toNat_natCast,Nat.min_eq_left ah,Int.fdiv_eq_ediv_of_nonneg _ (Int.le_of_lt (Int.pow_pos (by decide))),Int.natCast_ediv,Int.natCast_pow];rfl
theorem agq (x:Nat) (h:x < 18446744073709551616):aeI .u64 (x:Int) 1=((x%2:Nat):Int):=by
 show IntKind.wrap .u64 (((BitVec.ofInt 64 (x:Int)) &&& (BitVec.ofInt 64 (1:Int))).toNat:Int)=_;rw [K3,show BitVec.ofInt 64 (1:Int)=BitVec.ofNat 64 1 from rfl,BitVec.toNat_and,BitVec.toNat_ofNat,BitVec.toNat_ofNat,Nat.mod_eq_of_lt h,show 1%2 ^ 64=1 from rfl,Nat.and_one_is_mod,Pb ah]
theorem Nx (x:Nat):P3 .u64 (x:Int) 1=((2*x%18446744073709551616:Nat):Int):=by
 show IntKind.wrap .u64 ((x:Int)*2 ^ (min (1:Int).toNat 64))=_;rw [show (2:Int) ^ (min (1:Int).toNat 64)=2 from rfl,IntKind.wrap_u64];omega
theorem bOr (y v:Nat) (hv:v < 2) (a:2*y+v < 18446744073709551616):ior .u64 ((2*y:Nat):Int) (v:Int)=((2*y+v:Nat):Int):=by
 show IntKind.wrap .u64 (((BitVec.ofInt 64 ((2*y:Nat):Int)) ||| (BitVec.ofInt 64 (v:Int))).toNat:Int)=_;rw [K3,K3,BitVec.toNat_or,BitVec.toNat_ofNat,BitVec.toNat_ofNat,Nat.mod_eq_of_lt ah,Nat.mod_eq_of_lt ah];have:=Nat.shiftLeft_add_eq_or_of_lt (b:=v) (i:=1) ah y;rw [Nat.shiftLeft_eq,show y*2 ^ 1=2*y by omega] at this;rw [<- this,Pb a]
theorem divMod {b m r:Nat} (a:0 < b) (hr:r < b):(b*m+r) / b=m/\(b*m+r)%b=r:=by
 rw [Nat.mul_add_div a,Nat.div_eq_of_lt hr,Nat.mul_add_mod,Nat.mod_eq_of_lt hr];exact ⟨rfl,rfl⟩
theorem Ye (a b:Nat) (A:0 < b) (R:b < 37778931862957161709568) (ha:a < 340282366920938463463374607431768211456) (T:a / b < 18446744073709551616):Sq 396 [] [.agg (gd a),.agg (gd b)] [] (.bT [.int .u64 ((a / b:Nat):Int),.agg (gd (a%b))]):=by
 have D:=fun x=>MB x b;have u:=fun x=>UO x b;simp only [gd] at D u |-;refine bf 56 2 [.tmp 4,.cell 5 435] mixed func396 ?_;refine s0 ?_;refine aM.wv 128 [2,3,5,6] [48,64,96] (fun i=>[(8,.I (127-(i:Int))),(7,.int .u64 ((a / 2 ^ (128-i) / b:Nat):Int))]) (fun i=>[(112,.box [.int .u64 ((a / 2 ^ (128-i)%b / 18446744073709551616:Nat):Int),.int .u64 ((a / 2 ^ (128-i)%b%18446744073709551616:Nat):Int)])]) ?_ ?_ ?_
 ·have e0:a / 340282366920938463463374607431768211456=0:=Nat.div_eq_of_lt ha;simp only [go_sem,seval]<;>simp [e0]
 ·intro i _ G _ _ _;obtain ⟨k,hk⟩:∃ k:Nat,k=127-i:=⟨_,rfl⟩
  have S:(127:Int)-(i:Int)=k:=ah
  have F:decide (0<=(k:Int))=true:=iC;obtain ⟨P,N⟩:=aQ (a / 2 ^ (128-i));rw [S,<- N];obtain ⟨l,H⟩:=aQ (P%b);obtain ⟨q,T⟩:=aQ (P / b);rw [<- H,<- T];have hl0:l < 37778931862957161709568:=by rw [H];exact Nat.lt_trans (Nat.mod_lt _ A) R
  have O:P<=a:=by rw [N];exact Nat.div_le_self _ _
  obtain ⟨B,L⟩:=aQ (a / 2 ^ k%2);have M:B < 2:=by rw [L];exact Nat.mod_lt _ ah
  have j:a / 2 ^ (128-(i+1))=2*P+B:=by
   have e1:128-(i+1)=k:=ah
   have e2:128-i=k+1:=ah
   rw [N,L,e1,e2,Nat.pow_succ,<- Nat.div_div_eq_div_mul];omega
  have f:B=(if 64<=k then a / 18446744073709551616 / 2 ^ (k%64)%2 else a%18446744073709551616 / 2 ^ (k%64)%2):=by
   rw [L];split
   ·rename_i h;rw [Nat.div_div_eq_div_mul,show (18446744073709551616:Nat)=2 ^ 64 from rfl,<- Nat.pow_add,show 64+k%64=k by omega]
   ·rename_i h;rw [Nat.mod_eq_of_lt (show k < 64 by omega)];have e3:(18446744073709551616:Nat)=2 ^ k*(2*2 ^ (63-k)):=by
     rw [<- Nat.pow_succ',<- Nat.pow_add,show k+(63-k+1)=64 by omega]
    rw [e3,Nat.mod_mul_right_div_self,Nat.mod_mul_right_mod]
  have y:IntKind.wrap .u64 ((k:Int).tmod 64)=((k%64:Nat):Int):=by
   rw [show (k:Int).tmod 64=((k%64:Nat):Int) by rw [Int.tmod_eq_emod_of_nonneg ah];omega,Pb ah]
  have E:k%64 < 64:=Nat.mod_lt _ ah;have V:=agq (a%18446744073709551616 / 2 ^ (k%64)) (Nat.lt_of_le_of_lt (Nat.div_le_self _ _) ah);have W:=agq (a / 18446744073709551616 / 2 ^ (k%64)) (Nat.lt_of_le_of_lt (Nat.div_le_self _ _) ah);have Z:=ah' (a%18446744073709551616) (k%64) E;have y2:=ah' (a / 18446744073709551616) (k%64) E;have z1:Af .u64 ((l%18446744073709551616:Nat):Int) 63=((l%18446744073709551616 / 9223372036854775808:Nat):Int):=ah' _ 63 ah;have z2:P3 .u64 ((l / 18446744073709551616:Nat):Int) 1=((2*(l / 18446744073709551616):Nat):Int):=by rw [Nx];omega
  have z3:P3 .u64 ((l%18446744073709551616:Nat):Int) 1=((2*(l%9223372036854775808):Nat):Int):=by rw [Nx];omega
  have X:=bOr (l / 18446744073709551616) (l%18446744073709551616 / 9223372036854775808) ah ah;have Y:=bOr (l%9223372036854775808) B M ah;have v1:2*(l / 18446744073709551616)+l%18446744073709551616 / 9223372036854775808=(2*l+B) / 18446744073709551616:=ah
  have v2:2*(l%9223372036854775808)+B=(2*l+B)%18446744073709551616:=ah
  rw [v1] at X;rw [v2] at Y;have t:128-(i+1)=127-i:=ah
  have hlb:l < b:=by rw [H];exact Nat.mod_lt _ A
  have Q:b*q+l=P:=by rw [T,H];exact Nat.div_add_mod P b
  have g:2*P+B=b*(2*q)+(2*l+B):=by rw [<- Q,Nat.mul_add,<- Nat.mul_assoc,<- Nat.mul_assoc,Nat.mul_comm 2 b];omega
  have o:b<=2*l+B->2*P+B=b*(2*q+1)+(2*l+B-b):=fun h=>by rw [g,Nat.mul_add b (2*q) 1];omega
  have hqa:2*q+1<=2*(a / b)+1:=by have:=Nat.div_le_div_right (c:=b) O;omega
  have hnx:a / 2 ^ (128-(i+1)) / b<=a / b:=Nat.div_le_div_right (Nat.div_le_self _ _);have hqn:2*q < 18446744073709551616:=by
   have h1:2*q<=(2*P+B) / b:=by
    rw [Nat.le_div_iff_mul_le A,g,Nat.mul_comm];omega
   rw [<- j] at h1;omega
  have J:IntKind.wrap .i64 ((k:Int)-1)=(k:Int)-1:=gA ah ah;have w:(k:Int)-1=127-((i+1:Nat):Int):=ah
  have D:=D (2*l+B);have u:=u (2*l+B);by_cases C:64<=k
  ·have d:decide ((64:Int)<=(k:Int))=true:=iC;rw [aq C] at f;rw [<- f] at W;refine sc (a5 F d y Z (a5 y2 V W z1 (a4 z2 z3 X Y))) D ?_;rcases bZ (2*l+B) b with hX | hX
   ·have z:decide (0<=eM ((2*l+B:Nat):Int) (b:Int))=false:=by
     rw [gM,eM,aq ah];omega
    obtain ⟨n1,p⟩:=divMod (m:=2*q) A hX;rw [<- g,<- j,t] at n1 p;have s:=Nx q;rw [Nat.mod_eq_of_lt ah] at s;refine sm (a3 z s J) ?_;refine av.v G ?_;exact fL (a3 n1 p w)
   ·have z:decide (0<=eM ((2*l+B:Nat):Int) (b:Int))=true:=by
     rw [decide_eq_true_iff,eM,ak ah];split<;>omega
    have u:=u hX ah;obtain ⟨n1,p⟩:=divMod (m:=2*q+1) (r:=2*l+B-b) A ah;rw [<- o hX,<- j,t] at n1 p;have s:=Nx q;rw [Nat.mod_eq_of_lt ah] at s;have U:ior .u64 ((2*q:Nat):Int) 1=((2*q+1:Nat):Int):=bOr q 1 ah ah;refine sc (a4 z s U J) u ?_;refine av.v G ?_;exact fL (a3 n1 p w)
  ·have d:decide ((64:Int)<=(k:Int))=false:=jL;rw [ak C] at f;rw [<- f] at V;refine sc (a5 F d y Z (a5 y2 V W z1 (a4 z2 z3 X Y))) D ?_;rcases bZ (2*l+B) b with hX | hX
   ·have z:decide (0<=eM ((2*l+B:Nat):Int) (b:Int))=false:=by
     rw [gM,eM,aq ah];omega
    obtain ⟨n1,p⟩:=divMod (m:=2*q) A hX;rw [<- g,<- j,t] at n1 p;have s:=Nx q;rw [Nat.mod_eq_of_lt ah] at s;refine sm (a3 z s J) ?_;refine av.v G ?_;exact fL (a3 n1 p w)
   ·have z:decide (0<=eM ((2*l+B:Nat):Int) (b:Int))=true:=by
     rw [decide_eq_true_iff,eM,ak ah];split<;>omega
    have u:=u hX ah;obtain ⟨n1,p⟩:=divMod (m:=2*q+1) (r:=2*l+B-b) A ah;rw [<- o hX,<- j,t] at n1 p;have s:=Nx q;rw [Nat.mod_eq_of_lt ah] at s;have U:ior .u64 ((2*q:Nat):Int) 1=((2*q+1:Nat):Int):=bOr q 1 ah ah;refine sc (a4 z s U J) u ?_;refine av.v G ?_;exact fL (a3 n1 p w)
 ·intro _ _ _;have F:decide (0<=(127:Int)-((128:Nat):Int))=false:=rfl;simp only [go_sem,seval,F,Nat.sub_self,Nat.pow_zero,Nat.div_one];exact okx
def rLt (a b:Int × Nat):Bool:=decide (b.1 < a.1)
def Iv (rs:List Int):List (Int × Nat):=rs.zipIdx
def rY (rs:List Int):List (Int × Nat):=B0 rLt (Iv rs)
def yY:List (Int × Nat)->List Int->List Int
 | [],ps=>ps
 | x :: r,ps=>yY r (ps.set x.2 (ps.getD x.2 0+1))
theorem W4:Ord rLt:=⟨fun x y h=>by simp only [rLt,bL,gM] at *;omega,fun x y z h1 h2=>by simp only [rLt,gM] at *;omega⟩
theorem acN {rs:List Int} {x:Int × Nat}:x∈Iv rs ↔ rs[x.2]?=some x.1:=by
 obtain ⟨v,i⟩:=x;rw [Iv,mem_zipIdx_iff_getElem?]
theorem D4 {rs:List Int} {x:Int × Nat}:x∈rY rs ↔ rs[x.2]?=some x.1:=by rw [rY,(uN _ _).mem_iff,acN]
theorem afs (rs:List Int):(Iv rs).Pairwise fun a b=>a.2 < b.2:=by
 have:((Iv rs).map Prod.snd).Pairwise (· < ·):=by rw [Iv,zipIdx_map_snd];exact pairwise_lt_range'
 exact pairwise_map.1 this
theorem aft (rs:List Int):(rY rs).Pairwise fun a b=>b.1 < a.1\/(a.1=b.1/\a.2 < b.2):=by
 have key:∀ {L:List (Int × Nat)},uU rLt L->(∀ v,(L.filter fun a=>a.1==v).Pairwise fun a b=>a.2 < b.2)->L.Pairwise fun a b=>b.1 < a.1\/(a.1=b.1/\a.2 < b.2):=by
  intro L;induction L with
  | nil=>intro _ _;exact .nil
  | cons x r ih =>
   intro i f;have k:=iL.1 i;refine iL.2 ⟨fun b c=>?_,ih k.2 fun v=>?_⟩
   ·have j:=k.1 b c;simp only [rLt,gM] at j;rcases Int.lt_or_le b.1 x.1 with h | h
    ·exact .inl h
    ·have e:b.1=x.1:=ah
     have g:=f x.1;rw [filter_cons_of_pos (by simp),iL] at g;exact .inr ⟨e.symm,g.1 b (mem_filter.2 ⟨c,by simpa using e⟩)⟩
   ·have:=f v;cases q:x.1==v
    ·rwa [filter_cons_of_neg (by simp [q])] at this
    ·rw [filter_cons_of_pos (by simpa using q)] at this;exact (iL.1 this).2
 refine key (Jc W4 _) fun v=>?_;rw [rY,Xk W4 (fun a b l c=>by simp only [eH] at l c;simp only [rLt,gM];omega)];exact (afs rs).sublist filter_sublist
theorem Wj (rs:List Int) (gs:List Bool):∀ i,(∀ j,j < i->gs.getD j true=false->0<=nA rs gs i/\rs.getD j 0<=rs.getD (nA rs gs i).toNat 0/\((j:Int) < nA rs gs i->rs.getD j 0 < rs.getD (nA rs gs i).toNat 0))
 | 0,j,hj,_=>by omega
 | i+1,j,hj,hg=>by
  have hr:=yD rs gs i;have g:=Wj rs gs i;simp only [nA];rcases bZ j i with h | h
  ·obtain ⟨b,c,f⟩:=g j h hg;split
   ·rename_i a;simp only [cU,Bool.or_eq_true,bL] at a;rw [show ((i:Int)).toNat=i by omega];refine ⟨by omega,?_,fun _=>?_⟩<;>omega
   ·exact ⟨b,c,f⟩
  ·obtain rfl:j=i:=ah
   split
   ·rw [show ((j:Int)).toNat=j by omega];exact ⟨by omega,Int.le_refl _,fun h=>by omega⟩
   ·rename_i a;simp only [hg,Bool.not_false,fc,Bool.or_eq_true,bL] at a;refine ⟨by omega,by omega,fun h=>by omega⟩
theorem N6 (rs:List Int):∀ (n:Nat) (A B:List (Int × Nat)) (gs:List Bool) (ps:List Int),rY rs=A++B->n<=B.length->gs.length=rs.length->(∀ j,j < rs.length->gs.getD j true=A.any fun x=>x.2==j)->sQ rs n gs ps=yY (B.take n) ps
 | 0,_,_,_,_,_,_,_,_=>rfl
 | n+1,A,[],gs,ps,_,h,_,_=>by simp at h
 | n+1,A,x :: B,gs,ps,hL,hn,hgl,hg=>by
  have g:=aft rs;rw [hL] at g;have i:rs[x.2]?=some x.1:=D4.1 (by rw [hL];simp);have l:=(fA.1 i).1;have t:rs.getD x.2 0=x.1:=by rw [getD_eq_getElem?_getD,i];rfl
  have p:=(pairwise_append.1 g).2.2;have s:gs.getD x.2 true=false:=by
   rw [hg _ l,any_eq_false];intro a v w;simp only [eH] at w;have m:=p a v x (mem_cons_self ..);have k:rs[a.2]?=some a.1:=D4.1 (by rw [hL];simp [v]);rw [w,i] at k;have:=Option.some.inj k;omega
  obtain ⟨u,m,k⟩:=Wj rs gs rs.length x.2 l s;have hr:=yD rs gs rs.length;have o:=JC rs gs rs.length u;have q:nA rs gs rs.length=x.2:=by
   obtain ⟨b,q⟩:∃ b:Nat,nA rs gs rs.length=b:=⟨_,(Int.toNat_of_nonneg u).symm⟩
   rw [q] at m k o hr |-;simp only [Int.toNat_natCast] at m k o;have c:b < rs.length:=ah
   have r:rs.getD b 0=rs[b]:=by rw [getD_eq_getElem?_getD,fO c];rfl
   have f:(rs[b],b)∈A++x :: B:=by rw [<- hL,D4];exact fO c
   rw [hg b c,any_eq_false] at o;rcases mem_append.1 f with f | f
   ·exact absurd (by simp) (o _ f)
   ·rcases mem_cons.1 f with rfl | f
    ·rfl
    ·have:=(iL.1 (pairwise_append.1 g).2.1).1 _ f;simp only at this;rw [t,r] at m k;omega
  simp only [sQ,q,Int.toNat_natCast,take_succ_cons,yY];refine N6 rs n (A++[x]) B _ _ (by rw [hL,cQ];rfl) (by simpa using hn) (by rw [length_set,hgl]) fun j y=>?_;rw [any_append,getD_eq_getElem?_getD,getElem?_set];by_cases e:x.2=j
  ·subst e;rw [aq rfl,aq ah];simp
  ·rw [ak e,<- getD_eq_getElem?_getD,hg j y];simp [e]
theorem abt (rs:List Int) {n:Nat} (b:n<=rs.length) (ps:List Int):sQ rs n (replicate rs.length false) ps=yY ((rY rs).take n) ps:=
 N6 rs n [] (rY rs) _ ps rfl (by rw [rY,QY,Iv,length_zipIdx];exact b) (by simp) fun j a=>by simp [getD_eq_getElem?_getD,a]
theorem Kb (a b:Int):Sq 399 [] [.agg [.int .u64 (a / 18446744073709551616),.int .u64 (a%18446744073709551616)],.agg [.int .u64 (b / 18446744073709551616),.int .u64 (b%18446744073709551616)]] [] (.I (eM a b)):=by
 have f:=lD (a / 18446744073709551616) (b / 18446744073709551616);have g:=lD (a%18446744073709551616) (b%18446744073709551616);have c:=oH (eM (a / 18446744073709551616) (b / 18446744073709551616)) (eM (a%18446744073709551616) (b%18446744073709551616));have e:(if eM (a / 18446744073709551616) (b / 18446744073709551616)=0 then eM (a%18446744073709551616) (b%18446744073709551616) else eM (a / 18446744073709551616) (b / 18446744073709551616))=eM a b:=by
  unfold eM;repeat' split
  all_goals omega
 rw [e] at c;refine bf 17 2 [.tmp 4] mixed func399 ?_;refine sc aJ f ?_;refine sc aJ g ?_;exact Xh aJ c
theorem Nd (x y:Int × Nat):∃ c:Int,Sq 398 [] [.agg (nT x),.agg (nT y)] [] (.I c)/\decide (c < 0)=rLt x y:=by
 have h:=Kb y.1 x.1;refine ⟨eM y.1 x.1,?_,?_⟩
 ·simp only [nT];refine bf 10 2 [.tmp 4] mixed func398 ?_;exact jW aJ h
 ·rw [lA,decide_eq_true_iff,rLt,decide_eq_true_iff,eM];repeat' split
  all_goals omega
theorem LO (rs:List Int) (a:rs.length < 2 ^ 38):Sq 397 [.own 3 ((Iv rs).map nT)] [.ref 0,.fn 398 []] [.own 3 ((rY rs).map nT)] (.bT []):=
 Nc rLt 398 Nd (Iv rs) (by rw [Iv,length_zipIdx];exact a)
theorem GL (t:Int) (ws:List Int):pz t ws=if mO t ws=0 then (if aG ws=0 then (if t=0 then 0 else 2) else 0) else mO t ws:=by
 unfold pz mO;by_cases a:((!decide (t < 0)&&bQ t)&&right ws)=true
 ·by_cases b:Lb ws=true
  ·by_cases c:1024 < ws.length
   ·simp [a,b,c]
   ·simp [a,b,c]
  ·simp [a,b]
 ·simp only [a];rfl
theorem PT {t:Int} {l:List Int} (a:mO t l=0):(0<=t/\t<=4611686018427387904)/\(∀ x∈l,0<=x/\x<=4611686018427387904)/\l.length<=1024:=by
 unfold mO at a;split at a
 case isFalse=>cases a
 rename_i c;split at a
 case isFalse=>cases a
 rename_i g;split at a
 ·cases a
 rename_i h3;simp only [cU,iK,gM] at c;have f:=fun x b=>bI.1 (dn.1 c.2 x b);have htin:=bI.1 c.1.2;refine ⟨⟨by omega,by omega⟩,fun x b=>?_,by omega⟩;have:=dn.1 g x b;simp only [iK,gM] at this;have:=f x b;omega
theorem Jd:∀ {l:List Int},(∀ x∈l,0<=x/\x<=4611686018427387904)->0<=aG l/\aG l<=4611686018427387904*l.length
 | [],_=>by simp [aG]
 | x :: r,h=>by
  have:=Jd fun y a=>h y (mem_cons_of_mem _ a);have:=h x (by simp);simp only [aG,length_cons];omega
theorem Q2 {x:Int}:∀ {l:List Int},(∀ x∈l,0<=x/\x<=4611686018427387904)->x∈l->x<=aG l
 | y :: r,h,hx=>by
  have h1:=h y (by simp);have h2:=Jd (l:=r) fun z a=>h z (mem_cons_of_mem _ a);rcases mem_cons.1 hx with rfl | hx
  ·simp only [aG];omega
  ·have:=Q2 (fun z a=>h z (mem_cons_of_mem _ a)) hx;simp only [aG];omega
theorem Rr:∀ (A:List (Int × Nat)) (x:Int × Nat) (ps:List Int),yY (A++[x]) ps=(yY A ps).set x.2 ((yY A ps).getD x.2 0+1)
 | [],_,_=>rfl
 | y :: A,x,ps=>by simp only [cons_append,yY];exact Rr A x _
theorem Rs:∀ (A:List (Int × Nat)) (ps:List Int),(yY A ps).length=ps.length
 | [],_=>rfl
 | y :: A,ps=>by simp only [yY];rw [Rs A];simp
theorem Wl {B:Int}:∀ (A:List (Int × Nat)) {ps:List Int},(∀ p∈ps,0<=p/\p<=B)->0<=B->∀ p∈yY A ps,0<=p/\p<=B+A.length
 | [],ps,h,_=>by simpa [yY] using h
 | x :: A,ps,h,hB=>by
  intro p b;simp only [yY] at b
  have h2:=Wl (B:=B+1) A (ps:=ps.set x.2 (ps.getD x.2 0+1)) (fun q a=>by
   rcases mem_or_eq_of_mem_set a with a | rfl
   ·have:=h q a;omega
   ·rw [getD_eq_getElem?_getD];cases c:ps[x.2]? with
    | none=>simp;omega
    | some v=>have:=h v (dX c);simp;omega) ah p b
  simp only [length_cons];omega
theorem OU (t:Int) (ws:List Int) (hl:ws.length < 2 ^ 30):Sq 386 [] [.I t,.sl 1 (ints ws)] [.own 1 (ints (iH t ws))] (.bT [.ref 0,.I (pz t ws)]):=by
 have c1:=wC t ws hl;have O:=GL t ws;refine bf 103 2 [.tmp 4,.tmp 5] mixed func386 ?_;by_cases C:mO t ws=0
 case neg =>
  have d:(mO t ws==0)=false:=by simpa using C
  rw [ak C] at O;rw [iH,O,ak C];refine sc aJ c1 ?_;simp only [go_sem,seval,bne,d]<;>simp [ints]
 rw [aq C] at O;rw [C] at c1;obtain ⟨ht,q,hl2⟩:=PT C;rw [iH,O];refine sc aJ c1 ?_;simp only [go_sem,seval,aW];refine aM.wv ws.length [0,1,6,26,27] [] (fun i=>[(28,.I i),(7,.addr 128 0),(4,.nil)]) (fun i=>[(128,.box (gd (aG (ws.take i)).toNat))]) ?_ ?_ ?_
 ·simp only [go_sem,seval,gd,take_zero,aG,Int.toNat_zero,Nat.zero_div,Nat.zero_mod]<;>simp
 ·intro i _ g j m _;have o:=ints_at ws g;have h:=q _ (ck g);have hs:=Jd (l:=ws.take i) fun x h=>q x (mem_of_mem_take h);have s:aG (ws.take (i+1))=aG (ws.take i)+ws[i]:=by rw [l7 g,uO]
  have y:(ws.take i).length<=1024:=by rw [dY];omega
  obtain ⟨x,A⟩:=aQ (ws[i]);rw [<- A] at o h s;obtain ⟨n,hn⟩:∃ n:Nat,x=n:=⟨x.toNat,by omega⟩
  obtain ⟨S,hS⟩:∃ S:Nat,S=(aG (ws.take i)).toNat:=⟨_,rfl⟩
  have f:(aG (ws.take (i+1))).toNat=S+n:=ah
  have c2:=UP S n ah ah;have hu:IntKind.wrap .u64 (n:Int)=n:=Pb ah;rw [<- hS];rw [hn] at o;simp only [gd] at c2 |-;simp only [go_sem,seval,aW,j,o,hu];refine sc m c2 ?_;refine av.v g ?_;simp only [go_sem,seval,f]<;>simp
 ·intro _ k _;have hs:=Jd q;obtain ⟨S,hS⟩:∃ S:Nat,S=(aG ws).toNat:=⟨_,rfl⟩
  have f:aG ws=S:=ah
  simp only [jr,<- hS];rw [f];simp only [gd];by_cases q1:S=0
  ·rw [aq (by omega:(S:Int)=0)] at *;subst q1;by_cases q2:t=0
   ·subst q2;simp only [go_sem,seval,aW,k];exact ⟨Int.le_refl _,by omega,by omega,by simp [ints]⟩
   ·have d2:(t==0)=false:=by simpa using q2
    simp only [go_sem,seval,aW,k,bne,d2];simp [q2,ints]
  ·rw [ak (by omega:¬ (S:Int)=0),aq rfl,ak (by omega:¬ (S:Int)=0)];have hz:(((S / 18446744073709551616:Nat):Int)==0&&(((S%18446744073709551616:Nat):Int)==0))=false:=by
    rw [Bool.and_eq_false_iff,beq_eq_false_iff_ne,beq_eq_false_iff_ne];omega
   have hS72:S<=4722366482869645213696:=ah
   obtain ⟨T,hT⟩:∃ T:Nat,t=T:=⟨t.toNat,by omega⟩
   subst hT;simp only [go_sem,seval,aW,k,hz];refine aM.wv ws.length [0,1,6,7,46,47] [128] (fun i=>[(48,.I i),(10,.ref 1184),(11,.ref 1280),(12,.I ((T:Int)-aG (uT T S (ws.take i))))]) (fun i=>[(1184,.own 1 (ints (uT T S (ws.take i)))),(1280,.own 3 (((wA T S (ws.take i)).zipIdx).map nT))]) ?_ ?_ ?_
   ·simp only [go_sem,seval]<;>simp [uT,wA,ints,aG]
   ·intro i _ g j m _;have o:=ints_at ws g;have h:=q _ (ck g);have hg:=Q2 q (ck g);have y:(ws.take i).length=i:=by rw [dY];omega
    have z:uT T S (ws.take (i+1))=uT T S (ws.take i)++[(T:Int)*ws[i] / S]:=by rw [l7 g,uT,uT,jq];rfl
    have hr:wA T S (ws.take (i+1))=wA T S (ws.take i)++[(T:Int)*ws[i]%S]:=by rw [l7 g,wA,wA,jq];rfl
    have G:(uT T S (ws.take i)).length=i:=by rw [uT,qn,y]
    have a:(wA T S (ws.take i)).length=i:=by rw [wA,qn,y]
    obtain ⟨x,A⟩:=aQ (ws[i]);rw [<- A] at o h hg z hr;obtain ⟨n,hn⟩:∃ n:Nat,x=n:=⟨x.toNat,by omega⟩
    subst hn;have ae:n<=S:=ah
    have hTn:T*n<=4611686018427387904*4611686018427387904:=Nat.mul_le_mul ah ah;have ai:T*n / S<=T:=Nat.div_le_of_le_mul (by rw [Nat.mul_comm S];exact Nat.mul_le_mul_left T ae);have hu:IntKind.wrap .u64 (n:Int)=n:=Pb ah;have am:IntKind.wrap .u64 (T:Int)=T:=Pb ah;have c2:=KV T n ah ah;have c3:=Ye (T*n) S ah ah ah ah;simp only [gd] at c3;obtain ⟨Q,X⟩:=aQ (T*n / S);obtain ⟨R,hR⟩:=aQ (T*n%S);have Y:(T:Int)*n / S=Q:=by rw [X];push_cast;rfl
    have Z:(T:Int)*n%S=R:=by rw [hR];push_cast;rfl
    rw [Y] at z;rw [Z] at hr;rw [<- X,<- hR] at c3;rw [<- X] at ai;have F:IntKind.wrap .i64 (Q:Int)=Q:=gA ah ah;obtain ⟨L,U⟩:=aQ (uT T S (ws.take i));obtain ⟨M,hM⟩:=aQ (wA T S (ws.take i));rw [<- U] at z G |-;rw [<- hM] at hr a |-;have ac:aG (uT T S (ws.take (i+1)))=aG L+Q:=by rw [z,uO]
    simp only [go_sem,seval,aW,j,o,hu,am];refine sc aJ c2 ?_;refine aD.bp c3 ?_;simp only [go_sem,seval,F,aW,G,a,m,length_zipIdx];refine dP ?_;have r:=Hl (t:=(T:Int)) (W:=(S:Int)) (ws:=ws) ah f ah (fun x h=>(q x h).1) (i+1);rw [ac] at r;have hle0:0<=aG L:=by rw [U];exact (Hl (t:=(T:Int)) (W:=(S:Int)) (ws:=ws) ah f ah (fun x h=>(q x h).1) i).1
    have wl:IntKind.wrap .i64 ((T:Int)-aG L-Q)=(T:Int)-aG L-Q:=gA ah ah;have aj:((M++[(R:Int)]).zipIdx).map nT=(M.zipIdx).map nT++[[.int .u64 ((R / 18446744073709551616:Nat):Int),.int .u64 ((R%18446744073709551616:Nat):Int),.I i]]:=by
     rw [zipIdx_append,jq,a];simp only [zipIdx_cons,zipIdx_nil,map_cons,map_nil,nT,Nat.zero_add];rfl
    have ag:ints (L++[(Q:Int)])=ints L++[[.I (Q:Int)]]:=by simp [ints]
    have al:(T:Int)-aG (L++[(Q:Int)])=(T:Int)-aG L-Q:=by rw [uO];omega
    refine av.v g ?_;exact fL (a5 z hr aj ag (a2 al wl))
   ·intro _ k _;have a:(wA (T:Int) S ws).length=ws.length:=by rw [wA,qn]
    have c4:=LO (wA T S ws) (by rw [a];omega);have hlr:=BF (t:=(T:Int)) (W:=(S:Int)) (ws:=ws) ah f ah (fun x h=>(q x h).1);obtain ⟨N,hN⟩:∃ N:Nat,(T:Int)-aG (uT T S ws)=N:=⟨((T:Int)-aG (uT T S ws)).toNat,by omega⟩
    have E:=abt (wA T S ws) (n:=N) (by rw [a];omega) (uT T S ws);rw [a] at E;simp only [jr];rw [hN,Int.toNat_natCast,E];simp only [Iv] at c4;refine sg [1280] k c4 ?_;refine aM.wv N [87] [] (fun i=>[(88,.I i),(10,.ref 176),(11,.ref 192)]) (fun i=>[(176,.own 1 (ints (yY ((rY (wA T S ws)).take i) (uT T S ws)))),(192,.own 3 ((rY (wA T S ws)).map nT))]) ?_ ?_ ?_
    ·simp only [go_sem,seval]<;>simp [yY]
    ·intro i _ g j m _;have hol:(rY (wA (T:Int) S ws)).length=ws.length:=by rw [rY,(uN _ _).length_eq,Iv,length_zipIdx,a]
     have hi2:i < (rY (wA (T:Int) S ws)).length:=ah
     have o:=aV (c:=nT) (rY (wA (T:Int) S ws)) hi2;have u:=D4.1 (ck hi2);have s:(rY (wA (T:Int) S ws)).take (i+1)=(rY (wA (T:Int) S ws)).take i++[(rY (wA (T:Int) S ws))[i]]:=l7 hi2;obtain ⟨x,h⟩:=aQ ((rY (wA (T:Int) S ws))[i]);rw [<- h] at o u s;have hx2:x.2 < ws.length:=by rw [<- a];exact (fA.1 u).1
     have V:=Rr ((rY (wA (T:Int) S ws)).take i) x (uT T S ws);rw [<- s] at V;have af:∀ p∈uT (T:Int) S ws,0<=p/\p<=4611686018427387904:=fun p z=>by
      obtain ⟨w,J,rfl⟩:=mem_map.1 z;have h1:=q w J;have h2:=Q2 q J;refine ⟨Int.ediv_nonneg (Int.mul_nonneg ah h1.1) ah,?_⟩;refine Int.le_trans (Int.ediv_le_of_le_mul (b:=(T:Int)) ah ?_) ht.2;rw [f] at h2;exact Int.mul_le_mul_of_nonneg_left h2 ah
     have r:=Wl ((rY (wA (T:Int) S ws)).take i) af ah;have D:=Rs ((rY (wA (T:Int) S ws)).take i) (uT T S ws);rw [show (uT (T:Int) S ws).length=ws.length by rw [uT,qn]] at D;obtain ⟨L,U⟩:=aQ (yY ((rY (wA (T:Int) S ws)).take i) (uT T S ws));rw [<- U] at r D V |-;have B:x.2 < L.length:=ah
     have ad:=ints_at L B;have hv:=r _ (ck B);have ab:L.getD x.2 0=L[x.2]:=by simp [B]
     rw [ab] at V;rw [dY] at hv;have wv:IntKind.wrap .i64 (L[x.2]+1)=L[x.2]+1:=gA ah ah;simp only [nT] at o;have H:ints (L.set x.2 (L[x.2]+1))=(ints L).set x.2 [.I (L[x.2]+1)]:=by simp [ints,map_set]
     simp only [go_sem,seval,j,o,ad,wv,m,aW];refine dP ?_;refine av.v g ?_;exact fL (a2 V H)
    ·intro _ aa _;exact fL aa
theorem VR (t:Int) (ws:List Int) (a:ws.length < 2 ^ 30):Sq 386 [] [.I t,.sl 1 (ints ws)] [] (.bT [.sl 1 (ints (iH t ws)),.I (pz t ws)]):=by
 refine Spec.frozen (OU t ws a) [0] rfl ?_;intro r;rcases r with _ | r<;>rfl
def bk (long:Bool) (a:bB):Int:=if long then -a.aH else a.aH
theorem Ey {long:Bool} {a b:bB}:ahead long a b=true ↔ bk long a < bk long b\/(bk long a=bk long b/\a.src < b.src):=by
 unfold ahead bk;cases long<;>simp only [eH,nJ,if_true,if_false]<;>split<;>simp<;>omega
theorem Nu (long:Bool):Ord (ahead long):=by
 have h:∀ a b,ahead long a b=false ↔ ¬ (bk long a < bk long b\/(bk long a=bk long b/\a.src < b.src)):=fun a b=>by rw [<- Ey,Bool.not_eq_true]
 refine ⟨fun x y c=>?_,fun x y z h1 h2=>?_⟩
 ·rw [Ey] at c;rw [h];omega
 ·rw [h] at *;omega
theorem WD (long:Bool) (x:bB) (out:List bB):∀ k,k<=out.length->(∀ j y,kpos long x out k<=j->j < k->out[j]?=some y->ahead long x y=true)/\∀ y,0 < kpos long x out k->out[kpos long x out k-1]?=some y->ahead long x y=false
 | 0,_=>⟨fun j y g i=>by omega,fun y h=>by simp [kpos] at h⟩
 | k+1,hk=>by
  have l:out[k]?=some (out.getD k ⟨0,0,0,0,0⟩):=by rw [getD_eq_getElem?_getD,fO ah];rfl
  simp only [kpos];split
  ·rename_i f;obtain ⟨g,i⟩:=WD long x out k ah;refine ⟨fun j y a b c=>?_,i⟩;rcases bZ j k with h | h
   ·exact g j y a h c
   ·obtain rfl:j=k:=ah
    rw [l] at c;obtain rfl:=Option.some.inj c;exact f
  ·rename_i f;refine ⟨fun j y a b=>by omega,fun y _ c=>?_⟩;rw [Nat.add_sub_cancel,l] at c;obtain rfl:=Option.some.inj c;simpa using f
theorem aeN (long:Bool) (x:bB) {out:List bB} (h:uU (ahead long) out):uU (ahead long) (U0 long x out)/\∀ p,Ud (ahead long) p->(U0 long x out).filter p=(out++[x]).filter p:=by
 have m:=Nu long;obtain ⟨s,t⟩:=WD long x out out.length (dU _);have hk:=P6 long x out out.length;unfold U0;generalize kpos long x out out.length=k at *;have r:∀ y∈out.drop k,ahead long x y=true:=fun y c=>by
  obtain ⟨j,u,o⟩:=gT c;exact s j y u (dz o) o
 refine ⟨?_,fun p v=>?_⟩
 ·unfold uU;rw [pairwise_append,iL];refine ⟨h.sublist (take_sublist _ _),⟨fun y c=>m.asy _ _ (r y c),h.sublist (drop_sublist _ _)⟩,fun a q b g=>?_⟩;obtain ⟨i,hi,o⟩:=jw q;have f:ahead long x a=false:=by
   obtain ⟨y,c⟩:=iM (l:=out) (i:=k-1) ah;exact m.Xm a y x (h.XF m ah o c) (t y ah c)
  rcases mem_cons.1 g with rfl | g
  ·exact f
  ·exact m.Xm a x b f (m.asy _ _ (r b g))
 ·have:=xz v (A:=out.drop k) (B:=[x]) fun a q b g=>by rw [ga.1 g];exact r a q
  rw [show out.take k++x :: out.drop k=out.take k++([x]++out.drop k) from rfl,mK,this,<- mK,<- cQ,jY]
theorem Qn (long:Bool):∀ (l out:List bB),uU (ahead long) out->uU (ahead long) (MQ long out l)/\∀ p,Ud (ahead long) p->(MQ long out l).filter p=(out++l).filter p
 | [],out,h=>⟨h,fun p _=>by rw [append_nil];rfl⟩
 | x :: r,out,h=>by
  obtain ⟨a,b⟩:=aeN long x h;obtain ⟨c,d⟩:=Qn long r _ a;refine ⟨c,fun p f=>?_⟩;rw [MQ,d p f,mK,b p f,<- mK,cQ];rfl
theorem afK (long:Bool) (l:List bB):B0 (ahead long) l=Qo long l:=
 ake (Nu long) (Qn long l [] (by simp [uU])).1 fun p a=>(Qn long l [] (by simp [uU])).2 p a
theorem SV (long:Bool) (x y:bB):∃ c:Int,Sq 394 [] (.agg x.cells :: .agg y.cells :: [.bq [.bool long]]) [] (.I c)/\decide (c < 0)=ahead long x y:=by
 have b:=gJ x.aH y.aH;have f:=gJ x.src y.src;have hr:eM x.aH y.aH = -1\/eM x.aH y.aH=0\/eM x.aH y.aH=1:=by
  unfold eM;repeat' split
  all_goals omega
 have w:IntKind.wrap .i64 (0-eM x.aH y.aH) = -eM x.aH y.aH:=gN;refine ⟨if (if long then -eM x.aH y.aH else eM x.aH y.aH)=0 then eM x.src y.src else (if long then -eM x.aH y.aH else eM x.aH y.aH),?_,?_⟩
 ·simp only [bB.cells];cases long
  ·have a:=oH (eM x.aH y.aH) (eM x.src y.src);refine bf 23 3 [.tmp 5] mixed func394 ?_;refine sc aJ b ?_;refine sc aJ f ?_;exact Xh aJ a
  ·have a:=oH (-eM x.aH y.aH) (eM x.src y.src);refine bf 23 3 [.tmp 5] mixed func394 ?_;refine sc aJ b ?_;refine sc w f ?_;exact Xh aJ a
 ·rw [lA,decide_eq_true_iff,Ey];simp only [eM,bk];cases long<;>simp only [nJ,if_false,if_true]
  all_goals repeat' split
  all_goals omega
theorem YV (long:Bool) (l:List bB) (hl:l.length < 2 ^ 28):Sq 384 [] [.bool long,.sl 5 (l.map bB.cells)] [.own 5 ((Qo long l).map bB.cells)] (.ref 0):=by
 have c1:=uY l ah;have c2:=QU (ahead long) 394 [.bq [.bool long]] rfl (by simp only [go_sem,seval]) (fun _ _=>by simp only [go_sem,seval]) (SV long) l ah;rw [afK] at c2;refine bf 12 2 [.tmp 4] mixed func384 ?_;refine so aJ c1 ?_;refine aD.iT [] [128] true (by simp) ?_;refine s0 ?_;refine cY.gB c2 ?_;refine s0 ?_;intro r hr d a;obtain ⟨y,_,rfl⟩:=mem_map.1 hr;simp only [bB.cells,mem_cons,not_mem_nil,or_false] at a;rcases a with rfl | rfl | rfl | rfl | rfl<;>trivial
theorem Vm (long:Bool) (l:List bB) (a:l.length < 2 ^ 28):Sq 384 [] [.bool long,.sl 5 (l.map bB.cells)] [] (.sl 5 ((Qo long l).map bB.cells)):=by
 refine Spec.frozen (YV long l a) [0] rfl ?_;intro r;rcases r with _ | r<;>rfl
theorem UN:∀ {l:List bB} {a:Int},¬ 0 < a->mW a l=([],a)
 | [],_,_=>rfl
 | _ :: _,_,h=>by rw [mW,ak h]
theorem afe {long:Bool} {l:List bB} (h:l.all uf=true):∀ b∈Qo long l,uf b=true:=by
 have key:∀ (m out:List bB),(∀ b∈out,uf b=true)->(∀ b∈m,uf b=true)->∀ b∈MQ long out m,uf b=true:=by
  intro m;induction m with
  | nil=>intro out c _;exact c
  | cons x r ih =>
   intro out c f;refine ih _ ?_ fun b a=>f b (by simp [a]);intro b a;rcases mem_append.1 a with a | a
   ·exact c b (mem_of_mem_take a)
   ·rcases mem_cons.1 a with rfl | a
    ·exact f b (by simp)
    ·exact c b (mem_of_mem_drop a)
 exact key l [] (by simp) fun b a=>dn.1 h b a
theorem abj (q:Int) (l:List bB) (U:l.length < 2 ^ 28) (hq64:gm q):Sq 363 [] [.I q,.sl 5 (l.map bB.cells)] [.own 3 ((ke q l).1.map eN.cells)] (.bT [.ref 0,.I (ke q l).2,.I (qJ q l)]):=by
 have c2:=Vm (decide (0 < q)) l U;have E:(Qo (decide (0 < q)) l).length=l.length:=by rw [Qo,K6];simp
 refine bf 77 2 [.tmp 4,.tmp 5,.tmp 6] mixed func363 ?_;by_cases J:q < -1099511627776
 ·have y:decide (q < -1099511627776)=true:=dI J;have e:qJ q l=3:=by
   have:within q (-1099511627776) 1099511627776=false:=by simp [within];omega
   simp [qJ,this]
  simp only [go_sem,seval,y,ke,e]<;>simp
 have y:decide (q < -1099511627776)=false:=eJ J;by_cases w:1099511627776 < q
 ·have C:decide (1099511627776 < q)=true:=dI w;have e:qJ q l=3:=by
   have:within q (-1099511627776) 1099511627776=false:=by simp [within];omega
   simp [qJ,this]
  simp only [go_sem,seval,y,C,ke,e]<;>simp
 have C:decide (1099511627776 < q)=false:=eJ w;have e:qJ q l=if l.all uf then 0 else 3:=by
  have:within q (-1099511627776) 1099511627776=true:=by simp [within];omega
  simp [qJ,this]
 simp only [ke];rw [e];clear e;refine sm (a2 y C) ?_;clear y C;refine aM.wu l.length [0,1,18,19] [320] (fun i=>[(20,.I i),(4,.nil)]) (fun _=>[]) (fun i=>(l.drop i).all uf=l.all uf) rfl ?_ ?_ ?_
 ·simp only [go_sem,seval]<;>simp
 ·intro i _ j b r g;have k:=aV (c:=bB.cells) l j;have m:(i:Int) < (l.length:Int):=ah
  obtain ⟨x,z⟩:=aQ (l[i]);rw [fZ j,<- z] at g;rw [<- z] at k;simp only [all_cons,uf] at g;simp only [bB.cells] at k;clear c2;have bad:(within x.aZ 1 1048576&&within x.aH 1 1073741824)=false->l.all uf=false:=fun h=>by rw [h,gV] at g;exact g.symm
  by_cases M:x.aZ < 1
  ·have v:decide (x.aZ < 1)=true:=dI M;have f:=bad (by simp [within];omega);simp only [go_sem,seval,b,k,v,f]<;>simp [m,j]
  have v:decide (x.aZ < 1)=false:=eJ M;by_cases N:1048576 < x.aZ
  ·have B:decide (1048576 < x.aZ)=true:=dI N;have f:=bad (by simp [within];omega);simp only [go_sem,seval,b,k,v,B,f]<;>simp [m,j]
  have B:decide (1048576 < x.aZ)=false:=eJ N;by_cases O:x.aH < 1
  ·have D:decide (x.aH < 1)=true:=dI O;have f:=bad (by simp [within];omega);simp only [go_sem,seval,b,k,v,B,D,f]<;>simp [m,j]
  have D:decide (x.aH < 1)=false:=eJ O;by_cases Q:1073741824 < x.aH
  ·have G:decide (1073741824 < x.aH)=true:=dI Q;have f:=bad (by simp [within];omega);simp only [go_sem,seval,b,k,v,B,D,G,f]<;>simp [m,j]
  have G:decide (1073741824 < x.aH)=false:=eJ Q;have T:(within x.aZ 1 1048576&&within x.aH 1 1073741824)=true:=by simp [within];omega
  rw [T,fc] at g;refine sm (a5 b k v B (a3 D G r)) ?_;refine dP ?_;refine av.u j g ?_;exact gU
 intro _ p g;rw [nx] at g;have g:l.all uf=true:=g.symm;have t:=afe (long:=decide (0 < q)) g;rw [g];clear g;obtain ⟨o,V⟩:=aQ (Qo (decide (0 < q)) l);rw [<- V] at c2 E t |-;have F:IntKind.wrap .i64 (0-q) = -q:=gN;refine sm (a2 p F) ?_;refine sc aJ c2 ?_;clear c2 p;refine aM.uB (S:=List eN × Int) o.length [50,51] [816,832] (fun i s=>[(52,.I i),(5,.I s.2),(4,.ref 1136)]) (fun i s=>[(1136,.own 3 (s.1.map eN.cells))]) (fun i s=>(s.1++(mW s.2 (o.drop i)).1=(mW (max q (-q)) o).1/\(mW s.2 (o.drop i)).2=(mW (max q (-q)) o).2)/\s.1.length<=i/\(0<=s.2/\s.2<=1099511627776)) ([],max q (-q)) ⟨⟨rfl,rfl⟩,by simp,by omega⟩ ?_ ?_ ?_
 ·simp only [go_sem,seval]<;>simp
 ·rintro i ⟨L,a⟩ j b r ⟨⟨h1,h2⟩,h3,h4⟩;dsimp only at h1 h2 h3 h4;have k:=aV (c:=bB.cells) o j;have m:(i:Int) < (o.length:Int):=ah
  have A:=t _ (ck j);obtain ⟨x,z⟩:=aQ (o[i]);rw [fZ j,<- z] at h1 h2;rw [<- z] at k A;simp only [uf,within,cU,bL] at A;simp only [mW] at h1 h2;simp only [bB.cells] at k;have R:IntKind.wrap .i64 (a-min a x.aZ)=a-min a x.aZ:=gA ah ah;by_cases H:0 < a
  ·have d:decide (0 < min a x.aZ)=true:=iC;rw [aq H] at h1 h2;refine sm (a5 b k d R r) ?_;refine dP ?_;refine av.kW (L++[⟨x.src,min a x.aZ,x.aH⟩],a-min a x.aZ) j ⟨⟨by rw [cQ];exact h1,h2⟩,by simp;omega,by dsimp only;omega⟩ ?_;simp only [go_sem,seval]<;>simp
  ·have d:decide (0 < min a x.aZ)=false:=jL;rw [ak H] at h1 h2;refine sm (a5 b k d R r) ?_;refine dP ?_;refine av.kW (L,a-min a x.aZ) j ⟨?_,by dsimp only;omega,by dsimp only;omega⟩ ?_
   ·dsimp only;rw [show a-min a x.aZ=a by omega,UN H];exact ⟨h1,h2⟩
   ·simp only [go_sem,seval]<;>simp
 ·rintro ⟨L,a⟩ p ⟨⟨h1,h2⟩,h3,h4⟩;dsimp only at h1 h2;rw [nx] at h1 h2;simp only [mW,append_nil] at h1 h2;simp only [go_sem,seval,p,if_true,<- h1,<- h2];all_goals simp
theorem PO (w n:Int) (long:Bool) (l:List eN) (hl:l.length < 2 ^ 28):Sq 385 [] [.agg [.I w,.I n],.bool long,.sl 3 (l.map eN.cells)] [.own 4 ((rF w n long l).map aF.cells)] (.bT [.ref 0,.I (rE l)]):=by
 simp only [rF];refine bf 86 3 [.tmp 6,.tmp 7] mixed func385 ?_;refine s0 ?_;refine aM.w1 l.length 18 [1,2,3,16,17] [64,288] (fun i _=>(l.drop i).all G1=l.all G1) rfl ?_ ?_
 ·intro i _ j g q a;have k:=aV (c:=eN.cells) l j;have o:(i:Int) < (l.length:Int):=ah
  obtain ⟨x,v⟩:=aQ (l[i]);rw [fZ j,<- v] at a;rw [<- v] at k;simp only [all_cons,G1] at a;simp only [eN.cells] at k;have bad:(within x.aZ 0 1099511627776&&within x.aH 0 1073741824)=false->rE l=3:=fun h=>by
   rw [h,gV] at a;simp only [rE];rw [show l.all G1=false from a.symm];rfl
  by_cases F:x.aZ < 0
  ·have s:decide (x.aZ < 0)=true:=dI F;have b:=bad (by simp [within];omega);simp only [go_sem,seval,g,k,s,b]<;>simp [o,j]
  have s:decide (x.aZ < 0)=false:=eJ F;by_cases G:1099511627776 < x.aZ
  ·have z:decide (1099511627776 < x.aZ)=true:=dI G;have b:=bad (by simp [within];omega);simp only [go_sem,seval,g,k,s,z,b]<;>simp [o,j]
  have z:decide (1099511627776 < x.aZ)=false:=eJ G;by_cases H:x.aH < 0
  ·have A:decide (x.aH < 0)=true:=dI H;have b:=bad (by simp [within];omega);simp only [go_sem,seval,g,k,s,z,A,b]<;>simp [o,j]
  have A:decide (x.aH < 0)=false:=eJ H;by_cases J:1073741824 < x.aH
  ·have E:decide (1073741824 < x.aH)=true:=dI J;have b:=bad (by simp [within];omega);simp only [go_sem,seval,g,k,s,z,A,E,b]<;>simp [o,j]
  have E:decide (1073741824 < x.aH)=false:=eJ J;have T:(within x.aZ 0 1099511627776&&within x.aH 0 1073741824)=true:=by simp [within];omega
  rw [T,fc] at a;refine sm (a5 g k s z (a3 A E q)) ?_;refine dP ?_;refine av.u j a ?_;exact gU
 intro _ p a;rw [nx] at a;have a:l.all G1=true:=a.symm;have t:∀ f∈l,G1 f=true:=dn.1 a;have e:rE l=if l.all fun f=>bQ (f.aZ*f.aH) then 0 else 1:=by simp [rE,a]
 rw [e];clear e a;refine sm p ?_;clear p;refine aM.wu l.length [1,3,41,42] [64,688] (fun i=>[(43,.I i),(10,.ref 1344)]) (fun i=>[(1344,.own 4 (((l.take i).flatMap (F6 w n long)).map aF.cells))]) (fun i=>((l.drop i).all fun f=>bQ (f.aZ*f.aH))=l.all fun f=>bQ (f.aZ*f.aH)) rfl ?_ ?_ ?_
 ·simp only [go_sem,seval]<;>simp
 ·intro i _ j g q a;have k:=aV (c:=eN.cells) l j;have o:(i:Int) < (l.length:Int):=ah
  have r:=mI (F6 w n long) j;have D:=gw (f:=F6 w n long) (m:=2) (fun f=>by simp [F6]) (l.take i);have hlt:(l.take i).length=i:=by simp;omega
  have y:=t _ (ck j);obtain ⟨L,S⟩:=aQ ((l.take i).flatMap (F6 w n long));obtain ⟨x,v⟩:=aQ (l[i]);rw [<- S] at r D |-;rw [fZ j,<- v,all_cons] at a;rw [<- v] at r k y;simp only [G1,within,cU,bL] at y;have c1:=lg x.aZ x.aH ⟨by omega,by omega⟩ ⟨by omega,by omega⟩;simp only [F6] at r;obtain ⟨C,R⟩:=aQ (x.aZ*x.aH);rw [<- R] at c1 a r;have c2:=lP C;simp only [wd] at c1 c2;simp only [eN.cells] at k;obtain ⟨B,M⟩:=aQ (bQ C);rw [<- M] at c2 a;refine sc (a2 g k) c1 ?_;cases B
  ·rw [gV] at a;rw [<- a];simp only [nJ,if_false] at c2;refine aD.bp c2 ?_;refine s0 ?_;all_goals simp
  have hCr:=bI.1 M.symm;rw [fc] at a;have w1:IntKind.wrap .i64 (0-x.aZ) = -x.aZ:=gN;have N:IntKind.wrap .i64 (0-C) = -C:=gN;have O:IntKind.wrap .i64 (0 - -x.aZ) = - -x.aZ:=gN;have Q:IntKind.wrap .i64 (0 - -C) = - -C:=gN;simp only [if_true] at c2;refine sc aJ c2 ?_;cases long
  ·simp only [OR,nJ,if_false] at r;simp only [go_sem,seval,k,w1,N,O,Q,q,if_true];refine dP ?_;refine av.u j a ?_;simp only [go_sem,seval,r]<;>simp
  ·simp only [OR,if_true] at r;simp only [go_sem,seval,k,w1,N,O,Q,q,if_true];refine dP ?_;refine av.u j a ?_;simp only [go_sem,seval,r]<;>simp
 ·intro _ p a;rw [nx] at a;rw [<- a];simp only [go_sem,seval,p,jr];(with_reducible and_intros)<;>first|exact .dq|omega|skip
  all_goals simp
theorem GS (b:aI) (w n:Int) (p:b.small):Sq 295 [] [.agg b.cells,.agg [.I w,.I n]] [] (.agg (posOf w n b.qs).cells):=by
 obtain ⟨h1,h2⟩:=p;simp only [aI.cells];refine bf 22 2 [.cell 4 81] mixed func295 ?_;refine s0 ?_;refine aM.w1 b.qs.length 10 [3,4,8,9] [48,64,80,160] (fun i _=>posOf w n (b.qs.drop i)=posOf w n b.qs) rfl ?_ ?_
 ·intro i _ k f j a;have h:=aV (c:=aF.cells) b.qs k;have hli:(i:Int) < (b.qs.length:Int):=ah
  obtain ⟨x,o⟩:=aQ (b.qs[i]);rw [fZ k,<- o] at a;rw [<- o] at h;simp only [posOf,cE] at a;simp only [aF.cells] at h;cases g:x.who==w
  ·simp only [g,gV,nJ,if_false] at a;refine sm (a4 f h g j) ?_;refine dP ?_;refine av.u k a ?_;exact gU
  cases l:x.inst==n
  ·simp only [g,l,Bool.and_false,nJ,if_false] at a;refine sm (a5 f h g l j) ?_;refine dP ?_;refine av.u k a ?_;exact gU
  simp only [g,l,Bool.and_self,if_true] at a;rw [<- a];refine sm (a4 f h g l) ?_;exact okx
 ·intro _ m a;rw [nx] at a;rw [<- a];simp only [go_sem,seval,m,posOf]
theorem xA {A:Type} (p:A->Bool) {xs:List A} {i:Nat} (h:i < xs.length):(xs.take (i+1)).filter p=(xs.take i).filter p++(if p xs[i] then [xs[i]] else []):=by
 rw [l7 h,mK];congr 1;by_cases a:p xs[i]=true<;>simp [a]
def Mf (w n:Int) (P L:List aF):List aF:=P.filter (cE w n)++L.filter (cE w n)
def jnE (w n:Int) (P L:List aF):Int:=if Jg (Mf w n P L)==0&&within (tsQ (Mf w n P L)) (-1099511627776) 1099511627776 then 0 else 1
def jnP (w n:Int) (P L:List aF):aF:=if jnE w n P L=0 then ⟨w,n,tsQ (Mf w n P L),tsC (Mf w n P L)⟩ else ⟨0,0,0,0⟩
theorem Sl (w n:Int) (P L:List aF) (hP:P.length < 2 ^ 28) (hL:L.length < 2 ^ 28):Sq 359 [] [.agg [.I w,.I n],.sl 4 (P.map aF.cells),.sl 4 (L.map aF.cells)] [] (.bT [.agg (jnP w n P L).cells,.I (jnE w n P L)]):=by
 have z:(Mf w n P L).length < 2 ^ 30:=by
  have:=length_filter_le (cE w n) P;have:=length_filter_le (cE w n) L;simp only [Mf,cm];omega
 have hS:=Ng (Mf w n P L) z;obtain ⟨a,g⟩:∃ a:List (List aF),a=[P,L]:=⟨_,rfl⟩
 have m:([[D.sl 4 (P.map aF.cells)],[.sl 4 (L.map aF.cells)]]:List (List D))=a.map fun l=>[.sl 4 (l.map aF.cells)]:=by rw [g];rfl
 have two:a.length=2:=by rw [g];rfl
 have j:a.flatMap (fun l=>l.filter (cE w n))=Mf w n P L:=by rw [g];simp [Mf]
 have Q:∀ l∈a,l.length < 2 ^ 28:=by rw [g];intro l F;simp at F;rcases F with rfl | rfl<;>assumption
 have A:∀ i,((a.take i).flatMap (fun l=>l.filter (cE w n))).length<=(Mf w n P L).length:=by
  intro i;rw [<- j]
  conv=>rhs;rw [<- jY i a]
  rw [flatMap_append,cm];omega
 refine bf 61 3 [.cell 6 81,.tmp 7] mixed func359 ?_;refine sm m ?_;clear m;refine aM.wv 2 [3,6,18,19] [64,112,304,320] (fun i=>[(20,.I i),(8,.ref 608)]) (fun i=>[(608,.own 4 (((a.take i).flatMap fun l=>l.filter (cE w n)).map aF.cells))]) ?_ ?_ ?_
 ·simp only [go_sem,seval]<;>simp
 ·intro i _ hi o X _;have hi2:i < a.length:=ah
  have S:(i:Int) < 2:=ah
  have o:decide ((i:Int) < 2)=true:=o;have hm:=aV (c:=fun l:List aF=>[D.sl 4 (l.map aF.cells)]) a hi2;have M:(a.take (i+1)).flatMap (fun l=>l.filter (cE w n))=(a.take i).flatMap (fun l=>l.filter (cE w n))++a[i].filter (cE w n):=by
   rw [l7 hi2,flatMap_append,flatMap_singleton]
  have T:=A i;have R:=Q a[i] (ck _);obtain ⟨J,N⟩:=aQ ((a.take i).flatMap (fun l=>l.filter (cE w n)));obtain ⟨l,F⟩:=aQ (a[i]);rw [<- F] at hm M R;rw [<- N] at M T |-;simp only [go_sem,seval,o,hm,two];refine ⟨S,hi,?_⟩;refine aM.wv l.length [3,6,18,19,20,24,25] [64,112,304,320,416] (fun k=>[(26,.I k),(8,.ref 608)]) (fun k=>[(608,.own 4 ((J++(l.take k).filter (cE w n)).map aF.cells))]) ?_ ?_ ?_
  ·simp only [go_sem,seval]<;>simp
  ·intro k _ y b p _;have hlk:(k:Int) < (l.length:Int):=ah
   have f:=aV (c:=aF.cells) l y;have h:=xA (cE w n) y;have hfl:=length_filter_le (cE w n) (l.take k);have hlt:(l.take k).length=k:=by simp;omega
   obtain ⟨V,O⟩:=aQ (J++(l.take k).filter (cE w n));have hVl:V.length < 2 ^ 31:=by rw [O,cm];omega
   obtain ⟨x,hx⟩:=aQ (l[k]);have h:J++(l.take (k+1)).filter (cE w n)=V++(if cE w n x then [x] else []):=by rw [h,O,hx,cQ]
   rw [<- hx] at f;rw [<- O];simp only [cE] at h;simp only [aF.cells] at f;cases r:x.who==w
   ·simp only [r,gV,nJ,if_false,append_nil] at h;refine sm (a4 b f r p) ?_;refine dP ?_;refine av.v y ?_;simp only [go_sem,seval,cE,h]
   cases G:x.inst==n
   ·simp only [r,G,Bool.and_false,nJ,if_false,append_nil] at h;refine sm (a5 b f r G p) ?_;refine dP ?_;refine av.v y ?_;simp only [go_sem,seval,cE,h]
   simp only [r,G,Bool.and_self,if_true] at h;refine sm (a5 b f r G p) ?_;refine dP ?_;refine av.v y ?_;simp only [go_sem,seval,cE,h]<;>simp
  ·intro _ b _;simp only [go_sem,seval,b,X,jr];refine dP ?_;refine av.v hi ?_;exact fL M
 ·intro _ s _;have s:decide ((2:Int) < 2)=false:=rfl;have t:decide (((2:Nat):Int) < 2)=false:=rfl;have u:decide (((2:Nat):Int) < ((2:Nat):Int))=false:=rfl;have W:a.take 2=a:=take_of_length_le ah;obtain ⟨q,U⟩:=aQ (tsQ (Mf w n P L));obtain ⟨c,hc⟩:=aQ (tsC (Mf w n P L));obtain ⟨e,he⟩:=aQ (Jg (Mf w n P L));have hE:jnE w n P L=if e==0&&within q (-1099511627776) 1099511627776 then 0 else 1:=by rw [jnE,<- he,<- U]
  rw [<- U,<- hc,<- he] at hS;simp only [jnP];rw [<- U,<- hc,hE];simp only [go_sem,seval,two,s,t,u,W,j];refine sl aJ hS ?_;cases E:e==0
  ·simp only [go_sem,seval,bne,E]<;>simp
  by_cases Y:q < -1099511627776
  ·have C:decide (q < -1099511627776)=true:=dI Y;have B:within q (-1099511627776) 1099511627776=false:=by simp [within];omega
   simp only [go_sem,seval,bne,E,C,B]<;>simp
  have C:decide (q < -1099511627776)=false:=eJ Y;by_cases Z:1099511627776 < q
  ·have H:decide (1099511627776 < q)=true:=dI Z;have B:within q (-1099511627776) 1099511627776=false:=by simp [within];omega
   simp only [go_sem,seval,bne,E,C,H,B]<;>simp
  have H:decide (1099511627776 < q)=false:=eJ Z;have B:within q (-1099511627776) 1099511627776=true:=by simp [within];omega
  simp only [go_sem,seval,bne,E,C,H,B]<;>simp
theorem ack (q n:Int) (p:aF):tN q n p=(p.inst==n&&decide (eM q 0*p.aZ < 0))/\(tN q n p=true -> -eM q 0*p.aZ=max p.aZ (-p.aZ)):=by
 have c:(eM q 0 = -1/\q < 0)\/(eM q 0=0/\q=0)\/(eM q 0=1/\0 < q):=by unfold eM;repeat' split<;>omega
 rcases c with ⟨h,b⟩ | ⟨h,b⟩ | ⟨h,b⟩<;>rw [h]<;>refine ⟨?_,fun a=>?_⟩
 ·rw [tN,lA];simp;omega
 ·simp [tN] at a;omega
 ·rw [tN,lA];simp;omega
 ·simp [tN] at a;omega
 ·rw [tN,lA];simp;omega
 ·simp [tN] at a;omega
theorem adj (b:aI) (w n k:Int) (hb:b.small) (hq:b.qs.length < 2 ^ 20):Sq 365 [] [.agg b.cells,.agg [.I w,.I n],.I k] [.own 3 ((oA b w n k).map eN.cells)] (.bT [.ref 0,.I (nj b w n k)]):=by
 have c1:=gX b hb;have c2:=GS b w n hb;have c3:=gJ (posOf w n b.qs).aZ 0;simp only [aI.cells,aF.cells] at c1 c2 |-;refine bf 109 3 [.tmp 6,.tmp 7] mixed func365 ?_;refine sc aJ c1 ?_;cases E:b.okB
 ·have e:nj b w n k=14:=by simp [nj,E]
  simp only [go_sem,seval,oA,e]<;>simp
 by_cases k1:k < 0
 ·have G:decide (k < 0)=true:=dI k1;have e:nj b w n k=3:=by
   have:within k 0 1099511627776=false:=by simp [within];omega
   simp [nj,E,this]
  simp only [go_sem,seval,G,oA,e]<;>simp
 have G:decide (k < 0)=false:=eJ k1;by_cases k2:1099511627776 < k
 ·have d2:decide (1099511627776 < k)=true:=dI k2;have e:nj b w n k=3:=by
   have:within k 0 1099511627776=false:=by simp [within];omega
   simp [nj,E,this]
  simp only [go_sem,seval,G,d2,oA,e]<;>simp
 have d2:decide (1099511627776 < k)=false:=eJ k2;have b2:within k 0 1099511627776=true:=by simp [within];omega
 have e:nj b w n k=if aG (mP (posOf w n b.qs).aZ n b.qs) < k then 13 else 0:=by simp [nj,E,b2]
 have D:=fun p C=>S6 (Rq E p C);simp only [oA];rw [e];obtain ⟨Q,hQ⟩:=aQ ((posOf w n b.qs).aZ);rw [<- hQ] at c3 c2 |-;refine sc (a2 G d2) c2 ?_;refine sc aJ c3 ?_;have hσ:eM Q 0 = -1\/eM Q 0=0\/eM Q 0=1:=by
  unfold eM;repeat' split
  all_goals omega
 have S:=ack Q n;obtain ⟨σ,ai⟩:=aQ (eM Q 0);rw [<- ai] at hσ S |-;have wσ:IntKind.wrap .i64 (0-σ) = -σ:=gN;refine aM.wv b.qs.length [2,4,9,36,37] [64,80,560,608] (fun i=>[(38,.I i),(10,.ref 976),(11,.ref 1104),(12,.I (aG (mP Q n (b.qs.take i))))]) (fun i=>[(976,.own 1 (ints (It Q n (b.qs.take i)))),(1104,.own 1 (ints (mP Q n (b.qs.take i))))]) ?_ ?_ ?_
 ·simp only [go_sem,seval]<;>simp [It,mP,pick,ints,aG]
 ·intro i _ j g o _;have z:=aV (c:=aF.cells) b.qs j;have C:=D _ (ck j);have u:ints (It Q n (b.qs.take (i+1)))=_:=oW (tN Q n) aF.who j;have t:ints (mP Q n (b.qs.take (i+1)))=_:=oW (tN Q n) (fun p=>max p.aZ (-p.aZ)) j;have a:mP Q n (b.qs.take (i+1))=mP Q n (b.qs.take i)++(if tN Q n b.qs[i] then [max b.qs[i].aZ (-b.qs[i].aZ)] else []):=by
   rw [l7 j,mP,mP,pick,pick,flatMap_append,flatMap_singleton]
  have N:=gx (tN Q n) aF.who (b.qs.take i);have O:=gx (tN Q n) (fun p=>max p.aZ (-p.aZ)) (b.qs.take i);have hlt:(b.qs.take i).length=i:=by rw [dY];omega
  have aj:=GN (B:=1099511627776) (by decide) (l:=mP Q n (b.qs.take i)) (xX fun p C=>by have:=D p (mem_of_mem_take C);omega);obtain ⟨x,U⟩:=aQ (b.qs[i]);rw [<- U] at z C u t a;obtain ⟨o1,o2⟩:=S x;have wm:IntKind.wrap .i64 (σ*x.aZ)=σ*x.aZ:=by
   rcases hσ with h | h | h<;>rw [h]<;>rw [gA ah ah]
  have am:IntKind.wrap .i64 (-σ*x.aZ) = -σ*x.aZ:=by
   rcases hσ with h | h | h<;>rw [h]<;>rw [gA ah ah]
  simp only [aF.cells] at z;have N:(It Q n (b.qs.take i)).length<=i:=by unfold It;omega
  have O:(mP Q n (b.qs.take i)).length<=i:=by unfold mP;omega
  obtain ⟨W,J⟩:=aQ (It Q n (b.qs.take i));obtain ⟨V,H⟩:=aQ (mP Q n (b.qs.take i));have u:ints (It Q n (b.qs.take (i+1)))=ints W++(if tN Q n x then [[.I x.who]] else []):=by rw [u,J];rfl
  have t:ints (mP Q n (b.qs.take (i+1)))=ints V++(if tN Q n x then [[.I (max x.aZ (-x.aZ))]] else []):=by rw [t,H];rfl
  rw [<- H] at a aj O |-;rw [<- J] at N |-
  by_cases Y:tN Q n x=true
  ·rw [aq Y] at u t a;have o2:=o2 Y;rw [o1,cU] at Y;obtain ⟨X,q2⟩:=Y;have al:aG (mP Q n (b.qs.take (i+1)))=aG V+max x.aZ (-x.aZ):=by rw [a,uO]
   have wa:IntKind.wrap .i64 (aG V+max x.aZ (-x.aZ))=aG V+max x.aZ (-x.aZ):=gA ah ah;have wq:IntKind.wrap .i64 (max x.aZ (-x.aZ))=max x.aZ (-x.aZ):=gA ah ah;simp only [go_sem,seval,g,z,X,q2,wm,wσ,am,o2,wq,wa,aW,o];refine dP ?_;refine av.v j ?_;exact fL (a3 u t al)
  ·have qf:tN Q n x=false:=by simpa using Y
   rw [qf] at u t a o1;simp only [nJ,if_false,append_nil] at u t a;cases X:x.inst==n
   ·refine sm (a4 g z X o) ?_;refine dP ?_;refine av.v j ?_;exact fL (a3 u t a)
   ·rw [X,fc] at o1;simp only [go_sem,seval,g,z,X,wm,<- o1,o];refine dP ?_;refine av.v j ?_;exact fL (a3 u t a)
 intro _ y _;rw [jr];have s:(It Q n b.qs).length=(mP Q n b.qs).length:=Gt _ _ _ _;have ae:(mP Q n b.qs).length<=b.qs.length:=gx _ _ _;have h128:=AT E;have A:∀ x∈mP Q n b.qs,0<=x/\x<=1099511627776:=xX fun p C=>by have:=D p C;omega
 obtain ⟨ns,R⟩:=aQ (mP Q n b.qs);obtain ⟨ws,T⟩:=aQ (It Q n b.qs);rw [<- R] at s ae A |-;rw [<- T] at s |-;clear R T e c1 c2;by_cases Z:aG ns < k
 ·have d:decide (aG ns < k)=true:=dI Z;simp only [go_sem,seval,y,d,aq Z]<;>simp
 have d3:decide (aG ns < k)=false:=eJ Z;have c4:=OU k ns ah;have af:=vI k ns;have hE:pz k ns=0:=by
  rw [GL];have hg:mO k ns=0:=by
   have h1:right ns=true:=dn.2 fun x U=>by rw [bI];have:=A x U;omega
   have h2:Lb ns=true:=dn.2 fun x U=>by have:=A x U;simp;omega
   have h3:bQ k=true:=by rw [bI];omega
   simp only [mO,G,h1,h2,h3,ak (by omega:¬ 1024 < ns.length)];rfl
  rw [aq hg];split
  ·rw [aq ah]
  ·rfl
 rw [hE] at c4;simp only [ak Z];obtain ⟨ps,ag⟩:=aQ (iH k ns);rw [<- ag] at c4 af |-;refine sl (a2 y d3) c4 ?_;simp only [go_sem,seval,aW];refine ⟨fun r hr d hd=>?_,?_⟩
 ·obtain ⟨v,_,rfl⟩:=mem_map.1 hr;obtain rfl:=ga.1 hd;trivial
 refine aM.wv ps.length [10,89,90] [976,1344] (fun i=>[(91,.I i),(16,.ref 1712)]) (fun i=>[(1712,.own 3 ((rG (uP ws ps) i).map eN.cells))]) ?_ ?_ ?_
 ·simp only [go_sem,seval,RX]<;>simp
 ·intro i _ j g o _;have M:i < ws.length:=ah
  have z:=ints_at ps j;have ad:=ints_at ws M;have aa:ps.getD i 0=ps[i]:=by simp [j]
  have ab:ws.getD i 0=ws[i]:=by simp [M]
  have F:=Ds (uP ws ps) i;have ac:=yF (f:=uP ws ps) (m:=1) (fun i=>by unfold uP;split<;>simp) i;obtain ⟨L,hL⟩:=aQ (rG (uP ws ps) i);rw [<- hL] at F ac |-;simp only [uP,aa,ab] at F;have hlw:(i:Int) < (ws.length:Int):=ah
  have hlp:(i:Int) < (ps.length:Int):=ah
  by_cases q:0 < ps[i]
  ·have d:decide (0 < ps[i])=true:=dI q;rw [aq q] at F;simp only [go_sem,seval,aW,g,z,d,ad,o];refine dP ?_;refine av.v j ?_;simp only [go_sem,seval,F]<;>simp
  ·have d:decide (0 < ps[i])=false:=eJ q;rw [ak q,append_nil] at F;simp only [go_sem,seval,aW,g,z,d,o];refine dP ?_;refine av.v j ?_;exact fL F
 ·intro _ y _;simp only [go_sem,seval,aW,y,O0]
theorem m9 {A:Type} (p:A->Bool) (f:A->Int):∀ l:List A,pick p f l=(l.filter p).map f
 | []=>rfl
 | x :: r=>by
  have a:=m9 p f r;simp only [pick,flatMap_cons] at a |-;rw [a];by_cases h:p x=true<;>simp [h]
theorem J1 (f:aF->Int) {w n:Int} (c:f ⟨w,n,0,0⟩=0):∀ {qs:List aF},qs.Pairwise (fun x y=>lT x y=true)->aG ((qs.filter (cE w n)).map f)=f (posOf w n qs)
 | [],_=>by rw [posOf,c];rfl
 | p :: r,h=>by
  have h:=iL.1 h;by_cases a:cE w n p=true
  ·have g:r.filter (cE w n)=[]:=by
    rw [filter_eq_nil_iff];intro x i b;have:=oY.1 (h.1 x i);simp only [cE,cU,eH] at a b;omega
   rw [filter_cons,aq a,g,posOf,aq a];simp [aG]
  ·rw [filter_cons,ak a,posOf,ak a];exact J1 f c h.2
theorem agQ {b:aI} {g:List aF} (h:b.okB=true) (i:g.all qc=true) (w n:Int):(aG ((Mf w n b.qs g).map aF.aZ)=IN b g w n/\aG ((Mf w n b.qs g).map aF.cost)=Uo b g w n)/\right ((Mf w n b.qs g).map aF.aZ)=true/\right ((Mf w n b.qs g).map aF.cost)=true:=by
 have hr:=cy.1 h;have f:∀ p∈Mf w n b.qs g,bQ p.aZ=true/\bQ p.cost=true:=by
  intro p a;simp only [Mf,mem_append,mem_filter] at a;rcases a with ⟨a,_⟩ | ⟨a,_⟩
  ·have:=iG.1 (hr.ok p a);exact ⟨by rw [bI];omega,this.2.2.2.1⟩
  ·have:=dn.1 i p a;simp only [qc,cU] at this;exact this.2
 refine ⟨⟨?_,?_⟩,dn.2 ?_,dn.2 ?_⟩
 ·rw [Mf,jq,gy,J1 aF.aZ rfl hr.pw,IN,m9];rfl
 ·rw [Mf,jq,gy,J1 aF.cost rfl hr.pw,Uo,m9];rfl
 ·intro x c;obtain ⟨p,a,rfl⟩:=mem_map.1 c;exact (f p a).1
 ·intro x c;obtain ⟨p,a,rfl⟩:=mem_map.1 c;exact (f p a).2
theorem abM {b:aI} {g:List aF} (f:b.okB=true) (h:g.all qc=true) (w n:Int):jnE w n b.qs g=if AQ b g w n then 0 else 1:=by
 obtain ⟨⟨a,c⟩,h3,h4⟩:=agQ f h w n;simp only [jnE,Jg,tsQ,a,c,h3,h4,AQ];rcases Bool.eq_false_or_eq_true (bQ (IN b g w n)) with h5 | h5<;>rcases Bool.eq_false_or_eq_true (bQ (Uo b g w n)) with h6 | h6<;>simp [h5,h6]
theorem ai2 {b:aI} {g:List aF} (i:b.okB=true) (k:g.all qc=true) {w n:Int} (h:AQ b g w n=true):jnP w n b.qs g=⟨w,n,IN b g w n,Uo b g w n⟩:=by
 obtain ⟨⟨c,f⟩,h3,h4⟩:=agQ i k w n;have j:=abM i k w n;rw [h,aq rfl] at j;simp only [AQ,cU] at h;have a:Jg (Mf w n b.qs g)=0:=by simp [Jg,c,f,h3,h4,h.1,h.2.1]
 rw [jnP,aq j];simp only [tsQ,tsC,aq a,c,f]
theorem Pt (b:aI) (h:b.small):Sq 168 [] [.agg b.cells] [.own 7 (b.ts.map aL.cells)] (.agg [.I b.next,.ref 0,.sl 4 (b.qs.map aF.cells)]):=by
 have c1:=xp b.ts h.1;have c2:=tv b.qs h.2;simp only [aI.cells];refine bf 12 1 [.cell 2 32] mixed func168 ?_;refine so aJ c1 ?_;exact jW aJ c2
theorem aj2 (a b:Int):right [a,b]=(bQ a&&bQ b):=by simp [right]
theorem YC {g:List aF} (h:g.all qc=true):tK g=J5 g:=by
 have hr:∀ n,right (fu n g)=true:=fun n=>dn.2 fun x a=>by
  simp only [fu,mem_map,mem_filter] at a;obtain ⟨p,⟨b,_⟩,rfl⟩:=a;have:=dn.1 h p b;simp only [qc,cU] at this;exact this.2.1
 have c:∀ n,fu n g=pick (fun p:aF=>p.inst==n) aF.aZ g:=fun n=>by rw [m9];rfl
 unfold tK J5;congr 1;funext i;rw [lA,KM,hr,c];simp
theorem wY (b:aI) (g:List aF) (hb:b.small) (hq:b.qs.length < 2 ^ 28) (hg:g.length < 2 ^ 28):Sq 324 [] [.agg b.cells,.sl 4 (g.map aF.cells)] [.own 7 ((wS b g).ts.map aL.cells),.own 4 ((wS b g).qs.map aF.cells)] (.bT [.agg [.I (wS b g).next,.ref 0,.ref 1],.I (nw b g)]):=by
 have c1:=gX b hb;have c2:=Pt b hb;have c3:=KN g ah;have c4:=fun w n=>Sl w n b.qs g hq hg;simp only [aI.cells] at c1 c2 |-;refine bf 86 2 [.cell 4 32,.tmp 5] mixed func324 ?_;refine sc aJ c1 ?_;cases H:b.okB
 ·have e:nw b g=14:=by simp [nw,H]
  simp only [go_sem,seval,wS,e]<;>simp
 have e:nw b g=if g.all qc then (if J5 g then (if Cd b g then 0 else 1) else 12) else 3:=by simp [nw,H]
 simp only [wS];rw [e];clear e c1;refine s0 ?_;refine aM.w1 g.length 22 [1,2,4,20,21] [48,80,352] (fun i _=>(g.drop i).all qc=g.all qc) rfl ?_ ?_
 ·intro i _ z F Z f;have N:=aV (c:=aF.cells) g z;have hli:(i:Int) < (g.length:Int):=ah
  obtain ⟨x,hx⟩:=aQ (g[i]);have k1:=pM x.who x.inst;have k2:=bY [x.aZ,x.cost] (by simp);rw [aj2] at k2;rw [fZ z,<- hx] at f;rw [<- hx] at N;simp only [all_cons,qc] at f;simp only [aF.cells] at N;simp only [ints,map_cons,map_nil] at k2;clear c2 c3 c4;obtain ⟨B,hB⟩:∃ q,q=rN x.who x.inst:=⟨_,rfl⟩
  obtain ⟨C,p⟩:∃ q,q=(bQ x.aZ&&bQ x.cost):=⟨_,rfl⟩
  rw [<- hB] at k1 f;rw [<- p] at k2 f;cases B
  ·have r:g.all qc=false:=by rw [<- f];rfl
   refine sc (a2 F N) k1 ?_;rw [r];refine s0 ?_;all_goals simp
  refine sc (a2 F N) k1 ?_;cases C
  ·have r:g.all qc=false:=by rw [<- f];rfl
   refine sl aJ k2 ?_;rw [r];refine s0 ?_;all_goals simp
  refine sl Z k2 ?_;refine av.u z f ?_;exact gU
 intro _ U f;rw [nx] at f;have m:g.all qc=true:=f.symm;rw [m];rw [YC m] at c3;have S:=fun w n=>abM H m w n;have D:=fun w n=>@ai2 b g H m w n;clear f;refine sc U c3 ?_;cases b2:J5 g
 ·simp only [go_sem,seval]<;>simp
 refine so aJ c2 ?_;clear c2 c3;refine aM.wu 16 [1,2,4,9] [80,752] (fun i=>[(10,.I ((i:Int)+1))]) (fun i=>[(48,.box [.I b.next,.ref 752,.ref 1344]),(1344,.own 4 ((Ce b g i).map aF.cells))]) (fun i=>∀ k < i,Rg b g (((k:Nat):Int)+1)=true) (by simp) ?_ ?_ ?_
 ·simp only [go_sem,seval]<;>simp [Ce]
 ·intro i _ z _ _ f;obtain ⟨w,Q⟩:=aQ ((i:Int)+1);have L:decide (w<=16)=true:=iC;have ab:IntKind.wrap .i64 (w+1)=((i+1:Nat):Int)+1:=gN;have t:Ce b g (i+1)=Ce b g i++Up b g w 8:=by rw [Q];exact PR _ i
  have aa:=Cf b g i;have E:Rg b g w=false->Cd b g=false:=fun h=>by
   rw [Cd,all_eq_false];exact ⟨i,mem_range.2 z,by rw [<- Q,h];simp⟩
  obtain ⟨W,hW⟩:=aQ (Ce b g i);rw [<- hW] at t aa |-;rw [<- Q];refine sm L ?_;refine aM.wu 8 [1,2,4,9,10] [80,752] (fun j=>[(11,.I ((j:Int)+1))]) (fun j=>[(48,.box [.I b.next,.ref 752,.ref 1344]),(1344,.own 4 ((W++Up b g w j).map aF.cells))]) (fun j=>∀ k < j,AQ b g w (((k:Nat):Int)+1)=true) (by simp) ?_ ?_ ?_
  ·simp only [go_sem,seval]<;>simp [Up]
  ·intro j _ M _ _ T;obtain ⟨n,O⟩:=aQ ((j:Int)+1);have L:decide (n<=8)=true:=iC;have y:IntKind.wrap .i64 (n+1)=((j+1:Nat):Int)+1:=gN;have G:Up b g w (j+1)=Up b g w j++Nr b g w n:=by rw [O];exact PR _ j
   have hnl:=Wb b g w j
   have l:AQ b g w n=false->Cd b g=false:=fun h=>E (by
    rw [Rg,all_eq_false]
    exact ⟨j,mem_range.2 M,by rw [<- O,h];simp⟩)
   have p:=c4 w n;have S:=S w n;have D:=D w n;rw [S] at p;obtain ⟨V,J⟩:=aQ (W++Up b g w j);have hVl:V.length<=200:=by rw [J,cm];omega
   have a:W++Up b g w (j+1)=V++Nr b g w n:=by rw [G,J,cQ]
   rw [<- J,<- O];clear J hW G t c4;cases o:AQ b g w n
   ·have l:=l o;rw [o] at p;refine sc L p ?_;refine sm l ?_;all_goals simp
   ·have D:=D o;rw [o,D] at p;simp only [aF.cells] at p;have s:∀ k < j+1,AQ b g w (((k:Nat):Int)+1)=true:=fun k hk2=>by
     rcases bZ k j with h | h
     ·exact T k h
     ·obtain rfl:k=j:=ah
      rw [<- O];exact o
    simp only [Nr] at a;obtain ⟨X,hX⟩:=aQ (IN b g w n);obtain ⟨Y,hY⟩:=aQ (Uo b g w n);rw [<- hX,<- hY] at p a;refine sc L p ?_;cases A:X==0
    ·simp only [A,gV,nJ,if_false] at a;simp only [go_sem,seval,bne,A,y];refine dP ?_;refine av.u M s ?_;simp only [go_sem,seval,a]<;>simp
    cases R:Y==0
    ·simp only [A,R,Bool.and_false,nJ,if_false] at a;simp only [go_sem,seval,bne,A,R,y];refine dP ?_;refine av.u M s ?_;simp only [go_sem,seval,a]<;>simp
    simp only [A,R,Bool.and_self,if_true,append_nil] at a;simp only [go_sem,seval,bne,A,R,y];refine dP ?_;refine av.u M s ?_;exact fL a
  ·intro _ _ T;have v:Rg b g w=true:=dn.2 fun k o=>T k (mem_range.1 o);refine sm ab ?_;refine dP ?_;refine av.u z ?_ ?_
   ·intro k o;rcases bZ k i with h | h
    ·exact f k h
    ·obtain rfl:k=i:=ah
     rw [<- Q];exact v
   ·exact fL t
 ·intro _ _ f;have v:Cd b g=true:=dn.2 fun k o=>f k (mem_range.1 o);exact fL v
theorem O4 (r:az) (ss:List Int) (h:r.lp) (hs:ss.length < 2 ^ 30):Sq 64 [] [.agg r.cells,.sl 1 (ints ss)] [.own 1 (ints (ld r ss))] (.ref 0):=by
 have hl:=h.1;simp only [az.cells];refine bf 26 2 [.tmp 4] mixed func64 ?_;refine s0 ?_;refine dP ?_;refine aM.wv r.ms.length [1,9,10] [48,176] (fun i=>[(11,.I i),(5,.ref 384)]) (fun i=>[(384,.own 1 (ints (pick (fun m:au=>Ob ss m.state) au.no (r.ms.take i))))]) ?_ ?_ ?_
 ·simp only [go_sem,seval]<;>simp [pick,ints]
 ·intro i _ j k g _;have o:=aV (c:=au.cells) r.ms j;have a:=Gu (fun m:au=>Ob ss m.state) au.no j;have b:=gx (fun m:au=>Ob ss m.state) au.no (r.ms.take i);rw [dY] at b;have hli:(i:Int) < (r.ms.length:Int):=ah
  obtain ⟨x,s⟩:=aQ (r.ms[i]);rw [<- s] at o a;obtain ⟨O,p⟩:=aQ (pick (fun m:au=>Ob ss m.state) au.no (r.ms.take i));rw [<- p] at a b |-;have t:=tB ss x.state ah;have hil:(ints O).length<=2147483648:=by rw [aW];omega
  simp only [au.cells] at o;clear s p;refine sc (a2 k o) t ?_;cases q:Ob ss x.state
  ·rw [q] at a;simp only [nJ,if_false,append_nil] at a;refine sm g ?_;refine dP ?_;refine av.v j ?_;exact fL a
  ·rw [q] at a;simp only [if_true] at a;have f:ints O++[[.I x.no]]=ints (pick (fun m:au=>Ob ss m.state) au.no (r.ms.take (i+1))):=by rw [a];simp [ints]
   refine sm g ?_;refine dP ?_;refine av.v j ?_;exact fL f
 ·intro _ l _;simp only [go_sem,seval,l,jr,ld]
theorem LX (r:az) (ss:List Int) (h:r.lp) (a:ss.length < 2 ^ 30):Sq 64 [] [.agg r.cells,.sl 1 (ints ss)] [] (.sl 1 (ints (ld r ss))):=by
 refine Spec.frozen (O4 r ss h a) [0] rfl ?_;intro r;rcases r with _ | r<;>rfl
theorem Yi {r:az} (h:r.okB=true) (w:Int):Ob (ld r [1]) w=(bM r w==1):=by
 rw [lA,eH];constructor
 ·intro c;obtain ⟨x,i,e⟩:=any_eq_true.1 c;obtain rfl:=eH.1 e;exact TU h i
 ·intro g;have f:=(vJ h (w:=w)).1 ah;obtain ⟨a,b⟩:=Gj f;refine any_eq_true.2 ⟨w,?_,by simp⟩;refine mem_flatMap.2 ⟨fU r w,a,?_⟩;have e:Ob [1] (fU r w).state=true:=by
   have:(fU r w).state=1:=g;simp [Ob,this]
  simp [e,b]
theorem Pr (b:aI) (g:List aF) (a:b.small) (f:b.qs.length < 2 ^ 28) (c:g.length < 2 ^ 28):Sq 324 [] [.agg b.cells,.sl 4 (g.map aF.cells)] [] (.bT [.agg (wS b g).cells,.I (nw b g)]):=by
 refine Spec.frozen (wY b g a f c) [0,1] rfl ?_;intro r;rcases r with _ | _ | r<;>rfl
theorem Mx (w n:Int) (long:Bool) (l:List eN) (a:l.length < 2 ^ 28):Sq 385 [] [.agg [.I w,.I n],.bool long,.sl 3 (l.map eN.cells)] [] (.bT [.sl 4 ((rF w n long l).map aF.cells),.I (rE l)]):=by
 refine Spec.frozen (PO w n long l a) [0] rfl ?_;intro r;rcases r with _ | r<;>rfl
theorem X8 (q:Int) (l:List bB) (b:l.length < 2 ^ 28) (a:gm q):Sq 363 [] [.I q,.sl 5 (l.map bB.cells)] [] (.bT [.sl 3 ((ke q l).1.map eN.cells),.I (ke q l).2,.I (qJ q l)]):=by
 refine Spec.frozen (abj q l b a) [0] rfl ?_;intro r;rcases r with _ | r<;>rfl
def zB:aI:=⟨0,[],[]⟩
def Uf (b:aI) (w n:Int) (long:Bool) (f:List eN):aI × Int:=if rE f=0 then (wS b (rF w n long f),nw b (rF w n long f)) else (zB,rE f)
def ovT (b:aI) (w n p:Int) (long:Bool) (rest:Int):aI × Int:=if nj b w n rest=0 then Uf b w n long ((oA b w n rest).map (jz p)) else (zB,nj b w n rest)
def ovF (b:aI) (w n p:Int) (long:Bool) (f:List eN) (rest:Int):aI × Int:=if (Uf b w n long f).2=0 then ovT (Uf b w n long f).1 w n p long rest else (zB,(Uf b w n long f).2)
def ovR (s:af) (b:aI) (w n q p:Int):aI × Int:=
 if qJ q (iD s w n s.bH)=0 then ovF b w n p (decide (0 < q)) (ke q (iD s w n s.bH)).1 (ke q (iD s w n s.bH)).2 else (zB,qJ q (iD s w n s.bH))
theorem Kc (b:aI) (w n q c:Int) (f:List eN) (g:b.small) (h:b.qs.length < 2 ^ 28) (hf:f.length < 2 ^ 26):Sq 364 [] [.agg b.cells,.agg [.I w,.I n,.I q,.I c],.sl 3 (f.map eN.cells)] [] (.bT [.agg (Uf b w n (decide (0 < q)) f).1.cells,.I (Uf b w n (decide (0 < q)) f).2]):=by
 have c1:=Mx w n (decide (0 < q)) f ah;have c2:=Pr b (rF w n (decide (0 < q)) f) g h (by have:=Yc w n (decide (0 < q)) f;omega);obtain ⟨long,a⟩:=aQ (decide (0 < q));rw [<- a] at c1 c2 |-;simp only [Uf];simp only [aI.cells] at c2 |-;refine bf 29 3 [.cell 6 32,.tmp 7] mixed func364 ?_;by_cases k:rE f=0
 case neg =>
  have d:(rE f==0)=false:=by simpa using k
  rw [ak k];refine sc a.symm c1 ?_;simp only [go_sem,seval,bne,d,zB]<;>simp
 rw [aq k];rw [k] at c1;refine sc a.symm c1 ?_;exact jW aJ c2
theorem Ke {b:aI} (a:b.eo) (w n:Int) (long:Bool) (f:List eN):(Uf b w n long f).1.eo:=by
 unfold Uf;split
 ·exact Nt a _
 ·exact ⟨⟨by simp [zB],by simp [zB]⟩,by simp [zB],by simp [zB],by simp [zB]⟩
theorem OC (s:af) (b:aI) (w n q c p:Int) (hs:s.small) (Y:s.aj.okB=true) (T:b.eo) (hbl:s.bH.length < 2 ^ 20) (hq:gm q):Sq 330 [] [.agg s.cells,.agg b.cells,.agg [.I w,.I n,.I q,.I c],.I p] [] (.bT [.agg (ovR s b w n q p).1.cells,.I (ovR s b w n q p).2]):=by
 have c1:=LX s.aj [1] hs.aj (by simp);have E:=fun k=>tB (ld s.aj [1]) k (by have:=vK s.aj [1];have:=hs.aj.1;omega);simp only [Yi Y] at E;have U:=Ju s w n s.bH;obtain ⟨R,a⟩:=aQ (ovR s b w n q p);rw [<- a];simp only [ovR] at a;obtain ⟨B,hB⟩:=aQ (iD s w n s.bH);rw [<- hB] at a U;have c3:=X8 q B ah hq;have V:=X7 q B;obtain ⟨f,hf⟩:=aQ ((ke q B).1);obtain ⟨rest,O⟩:=aQ ((ke q B).2);rw [<- hf] at c3 V a;rw [<- O] at c3 a;have c4:=Kc b w n q c f T.small (by have:=T.short;omega) ah;have h:=Ke T w n (decide (0 < q)) f;simp only [ovF] at a;obtain ⟨A,m⟩:=aQ ((Uf b w n (decide (0 < q)) f).1);obtain ⟨e1,J⟩:=aQ ((Uf b w n (decide (0 < q)) f).2);rw [<- m,<- J] at a c4;rw [<- m] at h;have C:=adj A w n rest h.small h.short;have S:=ZR A w n rest;have hqs:=h.short;simp only [ovT] at a;obtain ⟨F,hF⟩:=aQ (oA A w n rest);rw [<- hF] at C S a;have D:=Kc A w n q c (F.map (jz p)) h.small ah (by rw [qn];omega);obtain ⟨b2,G⟩:=aQ (Uf A w n (decide (0 < q)) (F.map (jz p)));obtain ⟨e0,H⟩:=aQ (qJ q B);obtain ⟨e3,N⟩:=aQ (nj A w n rest);rw [<- G] at D a;rw [<- H] at c3 a;rw [<- N] at C a;clear hf O m J hF G H N h;simp only [af.cells];simp only [az.cells] at c1;rw [show ints [1]=[[.I 1]] from rfl] at c1;simp only [aI.cells] at c4 C D |-;refine bf 98 4 [.cell 8 32,.tmp 9] mixed func330 ?_;refine s0 ?_;refine dP ?_;refine aD.iT [352] [] false (by simp) ?_;refine s0 ?_;refine cY.gB c1 ?_;refine s0 ?_;refine aM.wv s.bH.length [3,5,6,8,10,24,25] [80,96,112,144,368,416] (fun i=>[(26,.I i),(11,.ref 720)]) (fun i=>[(720,.own 5 ((iD s w n (s.bH.take i)).map bB.cells))]) ?_ ?_ ?_
 ·simp only [go_sem,seval]<;>simp [iD]
 ·intro i _ t o j _;have l:=aV (c:=bB.cells) s.bH t;have X:(i:Int) < (s.bH.length:Int):=ah
  have g:iD s w n (s.bH.take (i+1))=iD s w n (s.bH.take i)++_:=mI _ t;have W:=Ju s w n (s.bH.take i);have hlt:(s.bH.take i).length=i:=by simp;omega
  obtain ⟨y,Z⟩:=aQ (s.bH[i]);obtain ⟨L,hL⟩:=aQ (iD s w n (s.bH.take i));rw [<- Z] at l g;rw [<- hL] at g W |-;have E:=E y.src;simp only [Pp] at g;simp only [bB.cells] at l;clear c1 c3 c4 C D a;cases k1:y.who==w
  ·simp only [k1,gV,nJ,if_false,append_nil] at g;refine sm (a4 o l k1 j) ?_;refine dP ?_;refine av.v t ?_;exact fL g
  cases k2:y.inst==n
  ·simp only [k1,k2,Bool.and_false,gV,nJ,if_false,append_nil] at g;refine sm (a5 o l k1 k2 j) ?_;refine dP ?_;refine av.v t ?_;exact fL g
  refine sc (a4 o l k1 k2) E ?_;cases k3:bM s.aj y.src==1
  ·simp only [k1,k2,k3,Bool.and_false,nJ,if_false,append_nil] at g;refine sm (a2 k3 j) ?_;refine dP ?_;refine av.v t ?_;exact fL g
  simp only [k1,k2,k3,Bool.and_self,if_true] at g;refine sm (a3 k3 l j) ?_;refine dP ?_;refine av.v t ?_;simp only [go_sem,seval,g]<;>simp
 intro _ x _;rw [jr,<- hB];clear E;refine sm x ?_;refine dP ?_;refine aD.iT [720] [] false (by simp) ?_;refine s0 ?_;refine cY.gB c3 ?_;by_cases Q:e0=0
 case neg =>
  have d:(e0==0)=false:=by simpa using Q
  rw [ak Q] at a;rw [a];simp only [go_sem,seval,bne,d,zB];all_goals simp
 rw [aq Q] at a;rw [Q];refine sc aJ c4 ?_;by_cases k1:e1=0
 case neg =>
  have d:(e1==0)=false:=by simpa using k1
  rw [ak k1] at a;rw [a];simp only [go_sem,seval,bne,d,zB];all_goals simp
 rw [aq k1] at a;rw [k1];refine so aJ C ?_;by_cases k3:e3=0
 case neg =>
  have d:(e3==0)=false:=by simpa using k3
  rw [ak k3] at a;rw [a];simp only [go_sem,seval,bne,d,zB];all_goals simp
 rw [aq k3] at a;rw [k3,a];refine s0 ?_;refine aM.wv F.length [3,5,6,8,17,82] [96,112,144] (fun i=>[(83,.I i)]) (fun i=>[(1200,.own 3 ((pX (jz p) F i).map eN.cells))]) ?_ ?_ ?_
 ·simp only [go_sem,seval,Gk]<;>simp
 ·intro i _ t o j _;have u:=uC (jz p) F i;have l:=aV (c:=eN.cells) (pX (jz p) F i) (i:=i) ah;have r:=DM (jz p) t;rw [I1 (jz p) t] at l;obtain ⟨y,Z⟩:=aQ (F[i]);obtain ⟨M,hM⟩:=aQ (pX (jz p) F i);rw [<- Z] at l r;rw [<- hM] at l r u |-;have z:M.set i { y with aH:=p }=pX (jz p) F (i+1):=r;have X:(i:Int) < (F.length:Int):=ah
  simp only [eN.cells] at l;clear D a;refine sm (a4 u o l j) ?_;refine dP ?_;all_goals first
   | omega
   | (refine av.v t ?_
      simp only [go_sem,seval,<- z,map_set])
 intro _ x _;rw [KU];refine sm x ?_;refine dP ?_;refine aD.iT [1200] [] false (by simp) ?_;refine s0 ?_;refine cY.gB D ?_;refine s0 ?_;all_goals (with_reducible and_intros)<;>first|exact .dq|omega|skip
theorem S3 {A:Type} (p:A->Bool) (f:A->Int):pick p f []=[]:=rfl
theorem IP (b:aI) (w n:Int):IN b [] w n=(posOf w n b.qs).aZ:=by simp [IN,S3,aG]
theorem IM (b:aI) (w n:Int):Uo b [] w n=(posOf w n b.qs).cost:=by simp [Uo,S3,aG]
theorem Y8 {b:aI} (h:b.okB=true) (w n:Int):(-1099511627776<=(posOf w n b.qs).aZ/\(posOf w n b.qs).aZ<=1099511627776)/\bQ (posOf w n b.qs).cost=true:=by
 by_cases a:∃ p∈b.qs,p.who=w/\p.inst=n
 ·have:=iG.1 ((cy.1 h).ok _ (uH a).1);exact ⟨this.2.2.1,this.2.2.2.1⟩
 ·rw [iX fun p f c=>a ⟨p,f,c⟩];exact ⟨⟨by show (-1099511627776:Int)<=0;decide,by show (0:Int)<=1099511627776;decide⟩,rfl⟩
theorem aeg {b:aI} (h:b.okB=true):Ce b [] 16=b.qs:=by
 have g:=cy.1 h;refine Hq (no:=fun p:aF=>p.who*16+p.inst) ?_ ?_ fun x=>⟨fun f=>?_,fun f=>?_⟩
 ·refine (Jq b []).imp_of_mem fun {p q} c j hpq=>?_;obtain ⟨k,m,i,u,c⟩:=sH c;obtain ⟨k2,m2,hk2,hm2,j⟩:=sH j;obtain ⟨rfl,-⟩:=pF c;obtain ⟨rfl,-⟩:=pF j;rw [oY] at hpq;dsimp only at hpq |-;omega
 ·refine g.pw.imp_of_mem fun {p q} c j hpq=>?_;have:=iG.1 (g.ok p c);have:=iG.1 (g.ok q j);rw [oY] at hpq;omega
 ·obtain ⟨k,m,i,u,f⟩:=sH f;obtain ⟨e,a⟩:=pF f;rw [IP,IM] at a;by_cases r:∃ p∈b.qs,p.who=(k:Int)+1/\p.inst=(m:Int)+1
  ·obtain ⟨s,l,o⟩:=uH r;have:x=posOf ((k:Int)+1) ((m:Int)+1) b.qs:=by
    rw [e,IP,IM];rcases hz:posOf ((k:Int)+1) ((m:Int)+1) b.qs with ⟨a1,a2,a3,a4⟩
    rw [hz] at l o;dsimp only at l o |-;rw [l,o]
   rw [this];exact s
  ·rw [iX fun p c i=>r ⟨p,c,i⟩] at a;exact absurd ⟨rfl,rfl⟩ a
 ·have i:=iG.1 (g.ok x f);have t:=qe g.pw f ⟨rfl,rfl⟩;refine mem_flatMap.2 ⟨(x.who-1).toNat,mem_range.2 ah,mem_flatMap.2 ⟨(x.inst-1).toNat,mem_range.2 ah,?_⟩⟩;rw [show (((x.who-1).toNat:Nat):Int)+1=x.who by omega,show (((x.inst-1).toNat:Nat):Int)+1=x.inst by omega];unfold Nr;rw [IP,IM,t,ak (by simp only [cU,eH];exact i.2.2.2.2)];simp
theorem add_nil {b:aI} (h:b.okB=true):nw b []=0/\wS b []=b:=by
 have a:nw b []=0:=by
  have c:J5 []=true:=by decide
  have e2:Cd b []=true:=by
   refine dn.2 fun k _=>dn.2 fun m _=>?_;have:=Y8 h ((k:Int)+1) ((m:Int)+1);have f:bQ (posOf ((k:Int)+1) ((m:Int)+1) b.qs).aZ=true:=by rw [bI];omega
   simp only [AQ,IP,IM,f,this.2,within,fc,cU,bL];exact this.1
  simp [nw,h,c,e2]
 refine ⟨a,?_⟩;rw [wS,aq a,aeg h]
theorem Ta {S:Int} (ws:List Int):∀ x∈uT 0 S ws,x=0:=fun x a=>by
 obtain ⟨w,_,rfl⟩:=mem_map.1 a;simp
theorem ZO {l:List Int} (h:∀ x∈l,x=0):aG l=0:=by
 induction l with
 | nil=>rfl
 | cons x r ih=>simp only [aG];rw [h x (by simp),ih fun y a=>h y (by simp [a])];rfl
theorem VS (ws:List Int):∀ x∈iH 0 ws,x=0:=by
 intro x a;unfold iH at a;split at a
 ·split at a
  ·exact (mem_replicate.1 a).2
  ·rw [ZO (Ta ws)] at a;exact Ta ws x a
 ·cases a
theorem ZS {b:aI} (h:b.okB=true) (w n:Int):nj b w n 0=0/\oA b w n 0=[]:=by
 have h0:0<=aG (mP (posOf w n b.qs).aZ n b.qs):=by
  refine (GN (B:=1099511627776) (by decide) fun x k=>?_).1;obtain ⟨p,j,_,rfl⟩:=rX k;have:=iG.1 ((cy.1 h).ok p j);omega
 have c:nj b w n 0=0:=by
  have e:within 0 0 1099511627776=true:=rfl;simp only [nj,h,e,if_true,ak (by omega:¬ aG (mP (posOf w n b.qs).aZ n b.qs) < 0)]
 refine ⟨c,?_⟩;rw [oA,aq c];have f:=VS (mP (posOf w n b.qs).aZ n b.qs);obtain ⟨ps,a⟩:=aQ (iH 0 (mP (posOf w n b.qs).aZ n b.qs));rw [<- a] at f |-;rw [O0,rG,flatMap_eq_nil_iff];intro i _;unfold uP;rw [ak];rw [getD_eq_getElem?_getD];cases g:ps[i]? with
 | none=>simp
 | some x=>rw [f x (dX g)];simp
theorem Wu {b:aI} {w n:Int} {long:Bool} {f:List eN}:(Uf b w n long f).2=(mC b w n long f).2/\((mC b w n long f).2=0->Uf b w n long f=mC b w n long f):=by
 unfold Uf mC;split
 ·exact ⟨rfl,fun _=>rfl⟩
 ·rename_i h;exact ⟨rfl,fun a=>absurd a h⟩
theorem ZA {b:aI} {w n:Int} {long:Bool} {f:List eN} (a:b.okB=true) (h:(mC b w n long f).2=0):(mC b w n long f).1.okB=true:=by
 unfold mC at h |-;split
 ·rename_i c;rw [aq c] at h;exact Wd h
 ·exact a
theorem afi {s:af} {b:aI} (x:b.okB=true) {w n q:Int} (y:fQ (bA s.aj n)=true):(ovR s b w n q (cG (bA s.aj n))).2=(ot s b w n q).2/\((ot s b w n q).2=0->ovR s b w n q (cG (bA s.aj n))=ot s b w n q):=by
 unfold ovR ot;rw [aq y];by_cases j:qJ q (iD s w n s.bH)=0
 case neg=>rw [ak j,ak j];exact ⟨rfl,fun h=>absurd h j⟩
 rw [aq j,aq j];obtain ⟨F,v⟩:=aQ (ke q (iD s w n s.bH));rw [<- v];obtain ⟨long,i⟩:=aQ (decide (0 < q));rw [<- i];obtain ⟨m,t⟩:=Wu (b:=b) (w:=w) (n:=n) (long:=long) (f:=F.1);unfold ovF;by_cases c:(mC b w n long F.1).2=0
 case neg =>
  rw [ak (by rw [m];exact c),ak (by rintro ⟨h,_⟩;exact c h)];exact ⟨m,fun h=>absurd h c⟩
 rw [t c,aq c];have g:=ZA x c;obtain ⟨k,a⟩:=aQ ((mC b w n long F.1).1);by_cases l:F.2=0
 ·rw [ak (by rintro ⟨_,h⟩;exact h l)];rw [<- a] at g;obtain ⟨z,t2⟩:=ZS g w n;obtain ⟨o,a2⟩:=add_nil g;have e:ovT k w n (cG (bA s.aj n)) long F.2=(k,0):=by
   rw [l,ovT,aq z,t2];have p:rE []=0:=by simp [rE]
   have e2:rF w n long []=[]:=by rw [rF];split<;>rfl
   rw [map_nil,Uf,aq p,e2,o,a2]
  rw [<- a,e];have r:mC b w n long F.1=(k,0):=by rw [a,<- c]
  rw [r];exact ⟨rfl,fun _=>rfl⟩
 ·rw [aq ⟨c,l⟩,<- a];unfold ovT Ec;split
  ·exact Wu
  ·rename_i u;exact ⟨rfl,fun h=>absurd h u⟩
def ovP (s:af) (b:aI) (p:aF):aI × Int:=if fQ (bA s.aj p.inst) then ovR s b p.who p.inst p.aZ (cG (bA s.aj p.inst)) else (zB,20)
def acy (s:af):List aF->aI->aI × Int
 | [],b=>(b,0)
 | p :: r,b=>if (ovP s b p).2=0 then acy s r (ovP s b p).1 else (zB,(ovP s b p).2)
def Il (w:Int) (p:aF):Bool:=p.who==w&&!(p.aZ==0)
def Qw (s:af) (w:Int) (l:List aF) (b:aI):aI × Int:=acy s (l.filter (Il w)) b
def Lc (s:af) (w:Int) (i:Nat):List aF:=if (posOf w ((i:Int)+1) s.book.qs).aZ==0 then [] else [posOf w ((i:Int)+1) s.book.qs]
theorem aeG {s:af} (h:s.book.okB=true) (w:Int):s.book.qs.filter (Il w)=rG (Lc s w) 8:=by
 have j:=cy.1 h;have g:∀ i,∀ x∈Lc s w i,x∈s.book.qs/\x.who=w/\x.inst=(i:Int)+1/\x.aZ≠0:=fun i x a=>by
  unfold Lc at a;split at a
  ·cases a
  ·rename_i b;obtain rfl:=ga.1 a;have b:(posOf w ((i:Int)+1) s.book.qs).aZ≠0:=by simpa using b
   by_cases r:∃ p∈s.book.qs,p.who=w/\p.inst=(i:Int)+1
   ·obtain ⟨c,f,m⟩:=uH r;exact ⟨c,f,m,b⟩
   ·rw [iX fun p l o=>r ⟨p,l,o⟩] at b;exact absurd rfl b
 refine Hq (no:=aF.inst) ?_ (acL (fun i _=>by unfold Lc;split<;>simp) fun i _ x a=>(g i x a).2.2.1) fun x=>⟨fun a=>?_,fun a=>?_⟩
 ·refine (j.pw.filter _).imp_of_mem fun {p q} l b hpq=>?_;have c:=(mem_filter.1 l).2;have f:=(mem_filter.1 b).2;simp only [Il,cU,eH] at c f;rw [oY] at hpq;omega
 ·obtain ⟨a,k⟩:=mem_filter.1 a;simp only [Il,cU,iK,eH,beq_eq_false_iff_ne] at k;have o:=iG.1 (j.ok x a);refine fR.2 ⟨(x.inst-1).toNat,by omega,?_⟩;have u:=qe j.pw a ⟨k.1,rfl⟩;unfold Lc;rw [show (((x.inst-1).toNat:Nat):Int)+1=x.inst by omega,u,ak (by simpa using k.2)];simp
 ·obtain ⟨i,hi,a⟩:=fR.1 a;obtain ⟨c,f,m,t⟩:=g i x a;exact mem_filter.2 ⟨c,by simp [Il,f,t]⟩
theorem Vr {s:af} {w:Int} (h:s.right) (v:1<=w/\w<=16) (u:bM s.aj w=2):∀ (m i:Nat) {b:aI},i+m=8->KT s.aj w b s.book.ts s.ps s.calls->(∀ k:Nat,i<=k->k < 8->(posOf w ((k:Int)+1) b.qs).aZ=(posOf w ((k:Int)+1) s.book.qs).aZ) ->
  (acy s ((range' i m).flatMap (Lc s w)) b).2=(mB s w m i b).2/\((mB s w m i b).2=0->acy s ((range' i m).flatMap (Lc s w)) b=mB s w m i b)
 | 0,_,_,_,_,_=>⟨rfl,fun _=>rfl⟩
 | m+1,i,b,hi,hb,hq=>by
  have hb0:=cy.1 h.book;have c:=hq i (dU _) ah;rw [range'_succ,flatMap_cons];simp only [mB];by_cases j:(posOf w ((i:Int)+1) s.book.qs).aZ=0
  ·have q:Lc s w i=[]:=by rw [Lc,aq (by simpa using j)]
   have e2:jD s w b ((i:Int)+1)=(b,0):=by rw [jD,aq (by rw [c];simpa using j)]
   rw [q,e2,nil_append,aq rfl];exact Vr h v u m (i+1) ah hb fun k z r=>hq k ah r
  ·obtain ⟨p,l⟩:=aQ (posOf w ((i:Int)+1) s.book.qs);have q:Lc s w i=[p]:=by rw [Lc,ak (by simpa using j),l]
   have o:p.who=w/\p.inst=(i:Int)+1:=by
    by_cases x:∃ p∈s.book.qs,p.who=w/\p.inst=(i:Int)+1
    ·rw [l];exact (uH x).2
    ·rw [iX fun p l B=>x ⟨p,l,B⟩] at j;exact absurd rfl j
   have e2:jD s w b ((i:Int)+1)=ot s b w ((i:Int)+1) (posOf w ((i:Int)+1) b.qs).aZ:=by rw [jD,ak (by rw [c];simpa using j)]
   have t:=TD (n:=(i:Int)+1) h v ah hb u (by rw [c];exact j);rw [q,e2,cons_append,nil_append];rw [c] at t |-;rw [<- l] at t |-;simp only [acy];have g:(ovP s b p).2=(ot s b w ((i:Int)+1) p.aZ).2/\((ot s b w ((i:Int)+1) p.aZ).2=0->ovP s b p=ot s b w ((i:Int)+1) p.aZ):=by
    unfold ovP;rw [o.1,o.2];by_cases a:fQ (bA s.aj ((i:Int)+1))=true
    ·rw [aq a];exact afi hb.ok a
    ·rw [ak a];unfold ot;rw [ak a];exact ⟨rfl,fun h=>by cases h⟩
   by_cases f:(ot s b w ((i:Int)+1) p.aZ).2=0
   ·rw [g.2 f,aq f,aq f];obtain ⟨y,a2,a3⟩:=t f;exact Vr h v u m (i+1) ah y fun k z r=>by rw [a3 _ ah ah];exact hq k ah r
   ·rw [ak (by rw [g.1];exact f),ak f];exact ⟨g.1,fun A=>absurd A f⟩
theorem afm {s:af} {w:Int} (h:s.right) (b:1<=w/\w<=16) (a:bM s.aj w=2):(Qw s w s.book.qs s.book).2=(mB s w 8 0 s.book).2/\((mB s w 8 0 s.book).2=0->Qw s w s.book.qs s.book=mB s w 8 0 s.book):=by
 rw [Qw,aeG h.book,rG,range_eq_range'];exact Vr h b a 8 0 rfl ⟨h.book,h.known,rfl⟩ fun _ _ _=>rfl
theorem JM (s:af) (b:aI) (w:Int) (X:s.small) (A:s.aj.okB=true) (G:b.eo) (S:∀ p∈b.qs,bJ s.aj p.inst=true):Sq 331 [] [.agg s.cells,.agg b.cells,.I w] [.own 4 ((if Am s w b.qs then qK w b.qs else []).map aF.cells),.own 3 ((if Am s w b.qs then wH s w b.qs else []).map aE.cells)]
  (.bT [.agg [.I (if Am s w b.qs then b.next else 0),.sl 7 ((if Am s w b.qs then b.ts else []).map aL.cells),.ref 0],.ref 1,.I (if Am s w b.qs then 0 else 1)]):=by
 have B:=fun n=>gq s.aj n X.aj.small;have E:=qw b.ts G.small.1;have hbs:=G.small.2;obtain ⟨W,R⟩:=aQ (Am s w b.qs);rw [<- R];have r:∀ p∈b.qs,1<=(bA s.aj p.inst).mult/\(bA s.aj p.inst).mult<=1024:=fun p U=>by
  have:=u6 ((cr.1 A).2.1.1 _ (BC (S p U)).1);omega
 simp only [af.cells,aI.cells];simp only [az.cells] at B;clear S A;refine bf 87 3 [.cell 6 32,.tmp 7,.tmp 8] mixed func331 ?_;refine s0 ?_;refine aM.wu b.qs.length [2,3,4,6,20,21] [64,80,112] (fun i=>[(7,.nil),(8,.I 0),(22,.I i),(9,.ref 944)]) (fun i=>[(944,.own 3 ((wH s w (b.qs.take i)).map aE.cells))]) (fun i=>Am s w (b.qs.drop i)=W) R.symm ?_ ?_ ?_
 ·simp only [go_sem,seval]<;>simp [wH]
 ·intro i _ h j k f;have m:=aV (c:=aF.cells) b.qs h;have L:(i:Int) < (b.qs.length:Int):=ah
  have M:(b.qs.take i).length=i:=by simp;omega
  have a:wH s w (b.qs.take (i+1))=wH s w (b.qs.take i)++_:=mI _ h;have J:(wH s w (b.qs.take i)).length<=1*(b.qs.take i).length:=gw (fun p=>by unfold aac;split<;>simp) _;have z:=G.ok _ (ck h);have t:=r _ (ck h);obtain ⟨x,C⟩:=aQ (b.qs[i]);obtain ⟨V,F⟩:=aQ (wH s w (b.qs.take i));rw [fZ h,<- C] at f;rw [<- C] at m a z t;rw [<- F] at a J;rw [<- F];have T:Am s w (x :: b.qs.drop (i+1))=((!(x.who==w)||bQ (lq x (bA s.aj x.inst).mult 0))&&Am s w (b.qs.drop (i+1))):=rfl;rw [T] at f;have o:=B x.inst;simp only [aac] at a;obtain ⟨y,N⟩:=aQ (bA s.aj x.inst);rw [<- N] at o f t;simp only [<- N] at a;have O:=L9 x y.mult 0 z.1 z.2 t ⟨by omega,by omega⟩;simp only [aF.cells] at m O;simp only [aC.cells] at o;clear B r F N E;cases l:x.who==w
  ·simp only [l,nJ,if_false,append_nil] at a;simp only [l,Bool.not_false,Bool.true_or,fc] at f;simp only [go_sem,seval,j,m,bne,l,k];refine dP ?_;refine av.u h f ?_;simp only [go_sem,seval,a]<;>simp
  simp only [l,if_true] at a;simp only [l,Bool.not_true,Bool.false_or] at f;simp only [go_sem,seval,j,m,bne,l];refine sc aJ o ?_;refine sc aJ O ?_;cases D:bQ (lq x y.mult 0)
  ·rw [D,gV] at f;rw [<- f];refine sm D ?_;all_goals simp
  rw [D,fc] at f;simp only [go_sem,seval,D,k,if_true];refine dP ?_;refine av.u h f ?_;simp only [go_sem,seval,a]<;>simp
 ·intro _ q f;rw [nx] at f;have f:W=true:=f.symm;rw [f,jr];simp only [if_true];clear B r;refine sm q ?_;refine dP ?_;refine aD.bp E ?_;clear E;refine s0 ?_;refine ⟨vO.mk (by kernel_rfl),?_⟩;refine aM.wv b.qs.length [2,6,9,16,67,68] [80,112,944] (fun i=>[(69,.I i)]) (fun i=>[(272,.box [.I b.next,.sl 7 (b.ts.map aL.cells),.ref 1328]),(1328,.own 4 ((qK w (b.qs.take i)).map aF.cells))]) ?_ ?_ ?_
  ·simp only [go_sem,seval]<;>simp [qK]
  ·intro i _ h j k _;have m:=aV (c:=aF.cells) b.qs h;have L:(i:Int) < (b.qs.length:Int):=ah
   have M:(b.qs.take i).length=i:=by simp;omega
   have g:qK w (b.qs.take (i+1))=qK w (b.qs.take i)++_:=mI _ h;have H:(qK w (b.qs.take i)).length<=1*(b.qs.take i).length:=gw (fun p=>by split<;>simp) _;obtain ⟨x,C⟩:=aQ (b.qs[i]);obtain ⟨K,Q⟩:=aQ (qK w (b.qs.take i));rw [<- C] at m g;rw [<- Q] at g H;rw [<- Q];simp only [aF.cells] at m;cases l:x.who==w
   ·simp only [l,nJ,if_false] at g;simp only [go_sem,seval,j,m,bne,l,k];refine dP ?_;refine av.v h ?_;simp only [go_sem,seval,g]<;>simp
   ·simp only [l,if_true,append_nil] at g;simp only [go_sem,seval,j,m,bne,l,k];refine dP ?_;refine av.v h ?_;simp only [go_sem,seval,g]<;>simp
  ·intro _ q _;simp only [go_sem,seval,q,jr];all_goals simp
theorem HG (s:af) (b:aI) (w:Int) (g:s.small) (a:s.aj.okB=true) (c:b.eo) (f:∀ p∈b.qs,bJ s.aj p.inst=true):Sq 331 [] [.agg s.cells,.agg b.cells,.I w] [] (.bT [.agg (if Am s w b.qs then (⟨b.next,b.ts,qK w b.qs⟩:aI) else zB).cells,.sl 3 ((if Am s w b.qs then wH s w b.qs else []).map aE.cells),.I (if Am s w b.qs then 0 else 1)]):=by
 have h:=JM s b w g a c f;cases q:Am s w b.qs;all_goals
  rw [q] at h;refine Spec.frozen h [0,1] rfl ?_;intro r;rcases r with _ | _ | r<;>rfl
theorem acq {s:af} {b:aI} (c:b.eo) (w n q p:Int):(ovR s b w n q p).1.eo:=by
 have a:zB.eo:=⟨⟨by simp [zB],by simp [zB]⟩,by simp [zB],by simp [zB],by simp [zB]⟩
 unfold ovR ovF ovT;split
 ·split
  ·split
   ·exact Ke (Ke c _ _ _ _) _ _ _ _
   ·exact a
  ·exact a
 ·exact a
theorem Y9 (s:af) (w:Int) (x:aF) (l:List aF) (b:aI):Qw s w (x :: l) b=if Il w x then (if (ovP s b x).2=0 then Qw s w l (ovP s b x).1 else (zB,(ovP s b x).2)) else Qw s w l b:=by
 unfold Qw;rw [filter_cons];split<;>rfl
theorem Ld (s:af) (w:Int) (F:s.small) (hq:s.book.qs.length < 2 ^ 20) (ac:∀ p∈s.book.qs,p.n7) (ai:s.bH.length < 2 ^ 20):Sq 288 [] [.agg s.cells,.I w] [] (.bT [.agg (qg s w).cells,.sl 3 ((jP s w).map aE.cells),.I (qh s w)]):=by
 have c1:=cw s.aj w F.aj.small;have c2:=mH s F;have L:=fun n=>gq s.aj n F.aj.small;have cP:=fun x=>xS x;obtain ⟨E,f⟩:=aQ (qh s w);have a:=f;simp only [qh,YI] at f;have m:bM s.aj w=(fU s.aj w).state:=rfl;obtain ⟨mb,aa⟩:=aQ (fU s.aj w);rw [<- aa] at c1 m;cases b1:fJ s
 ·simp only [b1] at f c2;have e:E=14:=by rw [f];rfl
  have Q:qg s w=zB:=by rw [qg,<- a,e];rfl
  have T:jP s w=[]:=by rw [jP,<- a,e];rfl
  rw [<- a,Q,T,e];simp only [af.cells,aI.cells,zB] at c2 |-;simp only [az.cells,au.cells] at c1;refine bf 98 2 [.cell 4 32,.tmp 5,.tmp 6] mixed func288 ?_;refine sc aJ c1 ?_;refine aD.bp c2 ?_;simp only [go_sem,seval,bne];all_goals simp
 have hr:=eW.1 b1;simp only [b1] at f c2;simp only [if_true] at f c2;cases B:gF s.aj w
 ·have U:bM s.aj w=0:=by
   by_cases h:bM s.aj w=0
   ·exact h
   ·rw [(vJ hr.aj).1 h] at B;cases B
  rw [aq U] at f;have e:E=10:=by rw [f];rfl
  have Q:qg s w=zB:=by rw [qg,<- a,e];rfl
  have T:jP s w=[]:=by rw [jP,<- a,e];rfl
  rw [<- a,Q,T,e];rw [B] at c1;simp only [af.cells,aI.cells,zB] at c2 |-;simp only [az.cells,au.cells] at c1;refine bf 98 2 [.cell 4 32,.tmp 5,.tmp 6] mixed func288 ?_;refine sc aJ c1 ?_;refine aD.bp c2 ?_;simp only [go_sem,seval,bne];all_goals simp
 have U:=(vJ hr.aj).2 B;rw [ak U] at f;rw [B] at c1;by_cases b3:mb.state=2
 case neg =>
  have d:(mb.state==2)=false:=by simpa using b3
  have W:bM s.aj w≠2:=by rw [m];exact b3
  simp only [ak W] at f;have e:E=14:=by rw [f];rfl
  have Q:qg s w=zB:=by rw [qg,<- a,e];rfl
  have T:jP s w=[]:=by rw [jP,<- a,e];rfl
  rw [<- a,Q,T,e];simp only [af.cells,aI.cells,zB] at c2 |-;simp only [az.cells,au.cells] at c1;refine bf 98 2 [.cell 4 32,.tmp 5,.tmp 6] mixed func288 ?_;refine sc aJ c1 ?_;refine aD.bp c2 ?_;simp only [go_sem,seval,bne,d];all_goals simp
 have d3:(mb.state==2)=true:=by simpa using b3
 have l:bM s.aj w=2:=by rw [m];exact b3
 simp only [aq l,if_true] at f;have hw:=(QZ hr.aj U).2;obtain ⟨u,g2⟩:=afm hr hw l;have g3:=Qv hr hw l 8 0 (b:=s.book) rfl ⟨hr.book,hr.known,rfl⟩ (fun k hk=>by omega);have am:s.book.eo:=⟨F.book,hq,ac,fun p hp=>by have:=iG.1 ((cy.1 hr.book).ok p hp);exact ⟨this.2.2.1,this.2.2.2.1⟩⟩
 have X:qg s w=if E=0 then ⟨(mB s w 8 0 s.book).1.next,(mB s w 8 0 s.book).1.ts,qK w (mB s w 8 0 s.book).1.qs⟩ else zB:=by rw [qg,<- a];rfl
 have Y:jP s w=if E=0 then wH s w (mB s w 8 0 s.book).1.qs else []:=by rw [jP,<- a]
 rw [X,Y,<- a];obtain ⟨G,hG⟩:=aQ (mB s w 8 0 s.book);rw [<- hG] at f u g2 g3 |-;obtain ⟨R,hR⟩:=aQ (Qw s w s.book.qs s.book);rw [<- hR] at u g2;have cO:=fun b q (h1:aI.eo b)=>OC s b w q;have hbok:=(cy.1 hr.book).ok;have j:=fun (b:aI) (n q c p:Int) (h1:b.eo) (W:gm q)=>OC s b w n q c p F hr.aj h1 ai W;have cW:=fun (b:aI) (h1:b.eo) (W:∀ p∈b.qs,bJ s.aj p.inst=true)=>HG s b w F hr.aj h1 W;clear cO a X Y hG aa m l b1 B U;simp only [af.cells,aI.cells] at c2 j cW |-;simp only [az.cells,au.cells] at c1 L;simp only [aC.cells] at L cP;refine bf 98 2 [.cell 4 32,.tmp 5,.tmp 6] mixed func288 ?_;refine sc aJ c1 ?_;refine sc aJ c2 ?_;simp only [go_sem,seval,bne,d3];refine aM.uB (S:=aI) s.book.qs.length [1,2,4,10,44,45] [48,80] (fun i _=>[(5,.nil),(6,.I 0),(46,.I i)]) (fun i b=>[(176,.box [.I b.next,.sl 7 (b.ts.map aL.cells),.sl 4 (b.qs.map aF.cells)])]) (fun i b=>Qw s w (s.book.qs.drop i) b=R/\b.eo) s.book ⟨hR.symm,am⟩ ?_ ?_ ?_
 ·exact gU
 ·rintro i b C z A ⟨g,hb⟩;have D:=aV (c:=aF.cells) s.book.qs C;have hli:(i:Int) < (s.book.qs.length:Int):=ah
  have ad:=ac _ (ck C);obtain ⟨x,hx⟩:=aQ (s.book.qs[i]);rw [fZ C,<- hx,Y9] at g;rw [<- hx] at D ad;simp only [aF.cells] at D;clear cW hx;cases H:x.who==w
  ·have e:Il w x=false:=by simp only [Il,H,gV]
   rw [e,ak (by simp)] at g;simp only [go_sem,seval,z,D,bne,H,A];refine dP ?_;refine av.kW b C ⟨g,hb⟩ ?_;exact gU
  cases q2:x.aZ==0
  case true =>
   have e:Il w x=false:=by simp only [Il,H,q2];rfl
   rw [e,ak (by simp)] at g;simp only [go_sem,seval,z,D,bne,H,q2,A];refine dP ?_;refine av.kW b C ⟨g,hb⟩ ?_;exact gU
  have e:Il w x=true:=by simp only [Il,H,q2];rfl
  rw [e,aq rfl] at g;have an:x.who=w:=by simpa using H
  have M:=L x.inst;have o:ovP s b x=if fQ (bA s.aj x.inst)=true then ovR s b x.who x.inst x.aZ (cG (bA s.aj x.inst)) else (zB,20):=rfl;obtain ⟨V,Z⟩:=aQ (ovP s b x);rw [<- Z] at g o;clear Z;have N:=cP (bA s.aj x.inst);have t:=j b x.inst x.aZ x.cost (cG (bA s.aj x.inst)) hb ad.2.2.1;have ab:=acq (s:=s) hb w x.inst x.aZ (cG (bA s.aj x.inst));rw [an] at o D;obtain ⟨O,hO⟩:=aQ (ovR s b w x.inst x.aZ (cG (bA s.aj x.inst)));rw [<- hO] at t ab o;obtain ⟨y,hy⟩:=aQ (bA s.aj x.inst);rw [<- hy] at M N t o;have ao:(w==w)=true:=by simp
  clear L cP j hO hy;simp only [go_sem,seval,z,D,bne,ao,q2];refine sc aJ M ?_;refine sc aJ N ?_;cases q3:fQ y
  ·rw [q3,ak lZ] at o;subst o;have g:(zB,(20:Int))=R:=g;rw [<- g] at u;have f:E=20:=by rw [f,<- u];rfl
   rw [f];simp only [go_sem,seval,bne,q3,zB];all_goals simp
  rw [q3,aq rfl] at o;subst o;simp only [go_sem,seval,q3,if_true];refine sc aJ t ?_;by_cases J:V.2=0
  ·rw [aq J] at g;rw [J];simp only [go_sem,seval,bne,A];refine dP ?_;refine av.kW V.1 C ⟨g,ab⟩ ?_;exact gU
  ·have d:(V.2==0)=false:=by simpa using J
   rw [ak J] at g;rw [<- g] at u;have f:E=V.2:=by rw [f,<- u,ak J]
   rw [f];simp only [go_sem,seval,bne,d,ak J,zB];all_goals simp
 ·rintro b al ⟨g,hb⟩;rw [nx] at g;have g:(b,(0:Int))=R:=g;have v:G.2=0:=by rw [<- u,<- g]
  have ag:G=(b,0):=by rw [<- g2 v,g]
  rw [aq v] at f;have r:=(g3 v).1;rw [ag] at r f |-;have ae:=cW b hb fun p hp=>(r.known.qs p hp).2;clear cW L cP j c1 c2;dsimp only at f |-;refine sc al ae ?_;rw [f];cases q:Am s w b.qs
  ·simp only [go_sem,seval,zB];all_goals simp
  ·refine s0 ?_;all_goals simp
end Go.Proofs.YtccipdjjkcejgaaGreat
