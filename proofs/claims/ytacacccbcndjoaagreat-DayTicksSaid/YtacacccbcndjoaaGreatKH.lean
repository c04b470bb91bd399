/- The reference's close: the whole, and what follows. No theorem of a claim. -/
import Derived.Test.YtacacccbcndjoaaGreatKG
import Derived.Test.YtacacccbcndjoaaGreatKE
set_option linter.unusedSimpArgs false
set_option linter.unusedVariables false
set_option maxHeartbeats 4000000
set_option maxRecDepth 16000
namespace Go.Proofs.YtacacccbcndjoaaGreat
open Go.Abs
def yK {A:Type} (f:Nat->A) (n:Nat):List A:=(List.range n).map f
theorem KA {A:Type} (f:Nat->A):yK f 0=[]:=rfl
theorem AI {A:Type} (f:Nat->A) (n:Nat):yK f (n+1)=yK f n++[f n]:=by simp [yK,List.range_succ]
theorem oM {A:Type} (f:Nat->A) (n:Nat):(yK f n).length=n:=by simp [yK]
def gN (f:Nat->Int):Nat->Nat->Int
 | 0,_=>0
 | m+1,i=>if f i=0 then gN f m (i+1) else f i
def af.zero:af:=⟨0,0,0,⟨[],[],[]⟩,⟨0,[],[]⟩,⟨0,[]⟩,[],[],[],[]⟩
def bL (s:af) (w:Int) (c:Nat):Int:=jl w c (p9 s w)
def yY (s:af) (w:Int) (c:Nat):Int:=kF w c (p9 s w)
def fW (s:af) (w:Int) (c:Nat):List Int:=rB s w c (bL s w c)
def gl (s:af) (w:Int) (c:Nat):ck:=tF c (zj s w c (bL s w c)) (fW s w c)
def uI (s:af) (w:Int) (c:Nat):Int:=if oH s w c (bL s w c)=0 then mW c (zj s w c (bL s w c)) (fW s w c) else oH s w c (bL s w c)
def iw (s:af) (w:Int) (c:Nat):List aS × Int × Int:=kk s w c (bL s w c) (gl s w c) ((fW s w c).getD 0 0) ((fW s w c).getD 1 0)
def nextId (l:bn):Int:=IntKind.wrap .i64 (l.last+1)
def fB (l:bn) (g:List aS) (e:Int):bn × Int:=if e=0/\g≠[] then (gH l (nextId l) g,eO l (nextId l) g) else (l,e)
def mO (w:Int) (c:Nat) (n:Int):List aN:=if n==0 then [] else [⟨w,c,n⟩]
def nh (s:af) (w:Int):Nat->Nat->bn->List aN->bn × List aN × Int
 | 0,_,l,p=>(l,p,0)
 | m+1,i,l,p =>
  if (fB l (iw s w i).1 (iw s w i).2.2).2=0 then nh s w m (i+1) (fB l (iw s w i).1 (iw s w i).2.2).1 (p++mO w i (iw s w i).2.1)
  else (l,p,(fB l (iw s w i).1 (iw s w i).2.2).2)
def pK (w:Int) (l:List eW):List eW:=l.flatMap fun p=>if p.who==w then [] else [p]
def pz (w:Int) (l:List bp):List bp:=l.flatMap fun b=>if b.who==w||b.src==w then [] else [b]
def ur (s:af) (w:Int):Int:=
 if og s w=0 then (if gN (yY s w) 3 0=0 then (if gN (uI s w) 3 0=0 then (nh s w 3 0 s.bE []).2.2 else gN (uI s w) 3 0) else gN (yY s w) 3 0) else og s w
def lz (s:af) (w:Int):af:=
 if ur s w=0 then { s with aj:=gp s.aj w 3,book:=oC s w,bE:=(nh s w 3 0 s.bE []).1,ps:=pK w s.ps,calls:=bM s.calls [w],aT:=pz w s.aT } else .zero
def He (s:af) (w:Int):List ck:=if ur s w=0 then yK (gl s w) 3 else []
def G7 (s:af) (w:Int):List aN:=if ur s w=0 then (nh s w 3 0 s.bE []).2.1 else []
theorem Pw (s:af) (w:Int) (l:List aA):(oG s w l).length<=l.length:=by
 have:=dZ (f:=LY s w) (m:=1) (fun p=>by unfold LY;split<;>simp) l;simpa [oG] using this
theorem N4 (s:af) (w:Int) (h:s.dz) (hs:s.small) (hq:s.book.qs.length < 2 ^ 20):(p9 s w).length < 2 ^ 20:=by
 unfold p9;split
 ·rename_i he;unfold og at he;split at he
  ·rename_i hm;have hb:=(oN (uf hm).1).2.1;have:=(yF (s:=s) (w:=w) 8 0 (Gl hb hs.book hq h.qs)).short;have h2:=Pw s w (mj s w 8 0 s.book).1.qs;omega
  ·rename_i hm;exact absurd he hm
 ·simp
theorem Pc {s:af} {w c g:Int} (h:oH s w c g=0):∃ a b rest,rB s w c g=a :: b :: rest/\rest.length=3:=by
 refine ⟨_,_,_,by rw [rB,if_pos h],rfl⟩
theorem RF {c gh:Int} {caps:List Int} {a b:Int} {rest:List Int} (h:mW c gh caps=0) (hc:caps=a :: b :: rest):fy (a-(tF c gh caps).c0)/\fy (b-(tF c gh caps).c1):=by
 simp only [tF,if_pos h,LF];unfold mW at h;split at h
 ·rename_i hk;simp only [cg,beq_iff_eq] at hk;have hg:=hk.2.2;unfold rU at hg;split at hg
  ·rename_i h1;simp only [cg,Bool.not_eq_true',decide_eq_false_iff_not] at h1;split at hg
   ·rename_i h2;have ha:=List.all_eq_true.1 h1.2 a (by rw [hc];simp);have hb:=List.all_eq_true.1 h1.2 b (by rw [hc];simp);have ha2:=List.all_eq_true.1 h2 a (by rw [hc];simp);have hb2:=List.all_eq_true.1 h2 b (by rw [hc];simp);simp only [Bool.not_eq_true',decide_eq_false_iff_not] at ha2 hb2;have ha:=cR.1 ha;have hb:=cR.1 hb;rw [hc];simp only [yD,List.getD_cons_zero,List.getD_cons_succ];exact ⟨⟨by omega,by omega⟩,⟨by omega,by omega⟩⟩
   ·cases hg
  ·cases hg
 ·cases h
theorem vQ {f:Nat->Int}:∀ {m i:Nat},gN f m i=0->∀ c,i<=c->c < i+m->f c=0
 | 0,i,_,c,h1,h2=>by omega
 | m+1,i,h,c,h1,h2=>by
  simp only [gN] at h;split at h
  ·rename_i h0;rcases Nat.lt_or_ge i c with h3 | h3
   ·exact vQ h c (by omega) (by omega)
   ·obtain rfl:c=i:=by omega
    exact h0
  ·rename_i h0;exact absurd h h0
theorem Be {l:bn} {id:Int} {g:List aS}:(gH l id g).bs.length<=306/\∀ b∈(gH l id g).bs,b.dz:=by
 unfold gH;split
 ·rename_i h;refine ⟨Nat.le_trans (IW _ _ _) wo,?_⟩
  have hin:xF l g gE=true:=by
   unfold eO at h;split at h
   ·split at h
    ·split at h
     ·cases h
     ·split at h
      ·split at h
       ·assumption
       ·cases h
      ·rename_i h2;exact absurd h h2
    ·cases h
   ·cases h
  intro b hb;obtain ⟨a,ha,hb⟩:=List.mem_flatMap.1 hb;unfold pX at hb;split at hb
  ·cases hb
  ·obtain rfl:=List.mem_singleton.1 hb;have hs:=List.all_eq_true.1 hin a ha
   have har:fy a.kind/\fy a.who/\fy a.cur:=by
    obtain ⟨k,hk,ha⟩:=List.mem_flatMap.1 ha;obtain ⟨w,hw,ha⟩:=List.mem_flatMap.1 ha;obtain ⟨c,hc,ha⟩:=List.mem_flatMap.1 ha;have h1:=List.mem_range.1 hk;have h2:=List.mem_range.1 hw;have h3:=List.mem_range.1 hc;unfold acc at ha;split at ha
    ·obtain rfl:=List.mem_singleton.1 ha;exact ⟨⟨by dsimp only;omega,by dsimp only;omega⟩,⟨by dsimp only;omega,by dsimp only;omega⟩,⟨by dsimp only;omega,by dsimp only;omega⟩⟩
    ·cases ha
   exact ⟨har.1,har.2.1,har.2.2,n8 hs⟩
 ·exact ⟨by simp,by simp⟩
def bn.fY (l:bn):Prop:=l.bs.length < 2 ^ 29/\(∀ b∈l.bs,b.dz)/\fy l.last
theorem QA {l:bn} {id:Int} {g:List aS} (h:eO l id g=0):1<=id/\id<=1099511627776:=by
 unfold eO at h;split at h
 ·split at h
  ·rename_i h1;simpa [within] using h1
  ·cases h
 ·cases h
theorem Fm {l:bn} {id:Int} {g:List aS}:(gH l id g).fY:=by
 refine ⟨Nat.lt_of_le_of_lt Be.1 (by decide),Be.2,?_⟩;unfold gH;split
 ·rename_i h;have:=QA h;exact ⟨by dsimp only;omega,by dsimp only;omega⟩
 ·exact ⟨by decide,by decide⟩
theorem KE {l:bn} (h:l.fY) (g:List aS) (e:Int):(fB l g e).1.fY:=by
 unfold fB;split
 ·exact Fm
 ·exact h
theorem Ln (w:Int) (l:List eW):(pK w l).length<=l.length:=by
 have:=dZ (f:=fun p:eW=>if p.who==w then [] else [p]) (m:=1) (fun p=>by split<;>simp) l;simpa [pK] using this
theorem Cs (w:Int) (l:List bp):(pz w l).length<=l.length:=by
 have:=dZ (f:=fun b:bp=>if b.who==w||b.src==w then [] else [b]) (m:=1) (fun p=>by split<;>simp) l;simpa [pz] using this
def jC (l:List (List Int)):List (List D):=l.map fun x=>[.sl 1 (ints x)]
theorem zo (l:List (List Int)):(jC l).length=l.length:=by simp [jC]
theorem Lc (l:List (List Int)) {i:Nat} (h:i < l.length):(jC l).getD i []=[.sl 1 (ints l[i])]:=by simp [jC,h]
theorem LZ (s:af) (w:Int) (hs:s.small) (hr:s.dz) (hm:s.aj.ms.length < 2 ^ 27) (hq:s.book.qs.length < 2 ^ 20) (hbl:s.aT.length < 2 ^ 20) (hlb:s.bE.bs.length < 2 ^ 29) :
  Abs.Spec Tryz.prog 88 [] [.agg s.cells,.int .i64 w] [.own 3 (pl (lz s w).ps),.own 5 ((lz s w).aT.map bp.cells),.own 8 ((He s w).map ck.cells),.own 3 ((G7 s w).map aN.cells)]
   (.bD [.agg [.int .i64 (lz s w).now,.int .i64 (lz s w).day,.int .i64 (lz s w).phase,.sl 3 ((lz s w).aj.ms.map ak.cells),.sl 12 ((lz s w).aj.ns.map ay.cells),.sl 4 ((lz s w).aj.xs.map av.cells),.int .i64 (lz s w).book.next,.sl 7 ((lz s w).book.ts.map aL.cells),.sl 4 ((lz s w).book.qs.map aA.cells),
    .int .i64 (lz s w).bE.last,.sl 4 ((lz s w).bE.bs.map bJ.cells),.ref 0,.sl 4 ((lz s w).calls.map au.cells),.ref 1,.sl 7 ((lz s w).aM.map bu.cells)],.ref 2,.ref 3,.int .i64 (ur s w)]):=by
 have c1:=w9 s w hs hr hq hbl;have c2:=aP s hs;have hDl:=N4 s w hr hs hq;have cG:=fun c=>uX w c (p9 s w) (by omega)
 have cC:=fun c g=>HI s w c g hs hr hm
 have cF:=fun c gh caps h=>GO c gh caps h
 have cX:=fun c g f caps a b rest h1 h2=>By s w c g f caps a b rest h1 h2 hs hr hm
 have cP:=fun l id g (h1:l.bs.length < 2 ^ 30) h2 h3=>pH l id g h1 h2 h3
 have cPut:=zm s.aj w 3 hs.aj;have cW:=zT s.calls [w] hs.calls (by simp)
 have hpE:og s w=0->bA s=true:=fun h=>by
  unfold og at h;split at h
  ·rename_i hm;exact (uf hm).1
  ·rename_i hm;exact absurd h hm
 obtain ⟨E,hE⟩:=aO (ur s w);have hE0:=hE;simp only [ur] at hE;simp only [lz,He,G7,<- hE0];obtain ⟨pe,hpe⟩:=aO (og s w);rw [<- hpe] at c1 hpE hE;simp only [af.cells] at c1 c2 cC cX |-;simp only [aG.cells] at c1;simp only [bn.cells] at cP;simp only [aq.cells] at cPut;simp only [ck.cells] at cF cX;simp only [ints,List.map_cons,List.map_nil] at cW;clear hE0;refine aU 241 2 [.cell 4 42,.tmp 5,.tmp 6,.tmp 7] mixed Tryz.func88 ?_;simp only [go_sem,seval];(with_reducible and_intros)<;>first|exact .dq|omega|skip
 refine aa.pure c1 ?_;clear c1
 by_cases b1:pe=0
 case neg =>
  have d:(pe==0)=false:=by simpa using b1
  rw [if_neg b1] at hE;rw [hE];simp only [if_neg b1];simp only [go_sem,seval,bne,d];(with_reducible and_intros)<;>first|exact .dq|omega|skip
  all_goals simp [af.zero,pl]
 obtain ⟨hroll,_,_,hps,_⟩:=oN (hpE b1);have cX:=fun c g f caps a b rest h1 h2=>cX c g f caps a b rest h1 h2 hroll hps
 rw [if_pos b1] at hE;rw [b1];clear hpE hpe b1;simp only [go_sem,seval];(with_reducible and_intros)<;>first|exact .dq|omega|skip
 refine aa.pure c2 ?_;clear c2;simp only [go_sem,seval];(with_reducible and_intros)<;>first|exact .dq|omega|skip
 obtain ⟨F1,hF1⟩:=aO (gN (yY s w) 3 0);rw [<- hF1] at hE;refine aB.walk (S:=Unit) 3 [1,2,4,8,9,10,12,13,14] [48,80,144,160,208] (fun i _=>[(16,.int .i64 i),(15,.ref 1024)]) (fun i _=>[(1024,.own 1 (ints (yK (bL s w) i)))]) (fun i _=>gN (yY s w) (3-i) i=F1) () hF1.symm ?_ ?_ ?_
 ·simp only [go_sem,seval,KA]<;>simp [ints]
 ·intro c _ hc hdc hwc hI;have hdc:decide ((c:Int) < 3)=true:=hdc;obtain ⟨m,hm⟩:∃ m,3-c=m+1:=⟨3-c-1,by omega⟩
  have hm2:3-(c+1)=m:=by omega
  rw [hm] at hI;simp only [gN] at hI;have cGc:=cG c;have e1:kF w c (p9 s w)=yY s w c:=rfl;have e2:jl w c (p9 s w)=bL s w c:=rfl;rw [e1,e2] at cGc;have hst:=AI (bL s w) c;have hlen:=oM (bL s w) c;have hstI:ints (yK (bL s w) (c+1))=ints (yK (bL s w) c)++[[.int .i64 (bL s w c)]]:=by rw [hst];simp only [ints,List.map_append,List.map_cons,List.map_nil]
  obtain ⟨T,hT⟩:=aO (yK (bL s w) c);rw [<- hT] at hstI hlen |-;clear cG cC cF cX cP cPut cW hst hT e1 e2;simp only [go_sem,seval,hdc];(with_reducible and_intros)<;>first|exact .dq|omega|skip
  refine aa.pure cGc ?_
  by_cases q:yY s w c=0
  ·rw [if_pos q] at hI;rw [q];simp only [go_sem,seval,bne,az,hlen,hwc];(with_reducible and_intros)<;>first|exact .dq|omega|skip
   refine ah.step () hc (by rw [hm2];exact hI) ?_;simp only [go_sem,seval,hstI]
  ·have d:(yY s w c==0)=false:=by simpa using q
   rw [if_neg q] at hI;rw [<- hI,if_neg q] at hE;rw [hE];simp only [if_neg q];simp only [go_sem,seval,bne,d];(with_reducible and_intros)<;>first|exact .dq|omega|skip
   all_goals simp [af.zero,pl]
 intro _ _ hI;have hI:F1=0:=hI.symm;rw [if_pos hI] at hE;clear cG hI;have hGl:=oM (bL s w) 3;have hGat:∀ c,c < 3->(yK (bL s w) 3)[c]?=some (bL s w c):=fun c h=>by simp [yK,h]
 obtain ⟨GS,hGS⟩:=aO (yK (bL s w) 3);simp only [<- hGS] at hGl hGat;rw [<- hGS];clear hGS;simp only [go_sem,seval];(with_reducible and_intros)<;>first|exact .dq|omega|skip
 obtain ⟨F2,hF2⟩:=aO (gN (uI s w) 3 0);rw [<- hF2] at hE;refine aB.walk (S:=Unit) 3 [1,2,4,8,9,12,14,15] [48,80,144,160,208,1024] (fun i _=>[(20,.int .i64 i),(13,.ref 1584),(19,.ref 1648)]) (fun i _=>[(1584,.own 8 ((yK (gl s w) i).map ck.cells)),(1648,.own 1 (jC (yK (fW s w) i)))]) (fun i _=>gN (uI s w) (3-i) i=F2) () hF2.symm ?_ ?_ ?_
 ·simp only [go_sem,seval,KA]<;>simp [jC]
 ·intro c _ hc hdc hwc hI;have hdc:decide ((c:Int) < 3)=true:=hdc;obtain ⟨m,hm⟩:∃ m,3-c=m+1:=⟨3-c-1,by omega⟩
  have hm2:3-(c+1)=m:=by omega
  rw [hm] at hI;simp only [gN] at hI;have hcg:c < GS.length:=by omega
  have hmg:=ints_at GS hcg
  have hga:GS[c]=bL s w c:=by
   have:=hGat c hc;rw [List.getElem?_eq_getElem hcg] at this;exact Option.some.inj this
  rw [hga] at hmg;have hlc:(c:Int) < (GS.length:Int):=by omega
  have cCc:=cC c (bL s w c);have hcl:(rB s w c (bL s w c)).length < 2 ^ 30:=by unfold rB;split<;>simp
  have cFc:=cF c (zj s w c (bL s w c)) (rB s w c (bL s w c)) hcl;have hCE:uI s w c=if oH s w c (bL s w c)=0 then mW c (zj s w c (bL s w c)) (rB s w c (bL s w c)) else oH s w c (bL s w c):=rfl
  have e1:tF c (zj s w c (bL s w c)) (rB s w c (bL s w c))=gl s w c:=rfl;have hst1:=AI (gl s w) c;have hst2:=AI (fW s w) c;have hst2':jC (yK (fW s w) (c+1))=jC (yK (fW s w) c)++[[.sl 1 (ints (rB s w c (bL s w c)))]]:=by rw [hst2];simp only [jC,List.map_append,List.map_cons,List.map_nil,fW]
  have hl1:=oM (gl s w) c;have hl2:=oM (fW s w) c;rw [e1] at cFc;obtain ⟨T,hT⟩:=aO (yK (gl s w) c);obtain ⟨U,hU⟩:=aO (yK (fW s w) c);rw [<- hT] at hst1 hl1;rw [<- hU] at hst2' hl2;rw [<- hT,<- hU];obtain ⟨fl,hfl⟩:=aO (gl s w c);rw [<- hfl] at cFc hst1;clear cC cF cX cP cPut cW hst2 hT hU e1 hGat;simp only [go_sem,seval,hdc,az,hmg];(with_reducible and_intros)<;>first|exact .dq|omega|skip
  refine aa.pure cCc ?_
  by_cases q:oH s w c (bL s w c)=0
  case neg =>
   have d:(oH s w c (bL s w c)==0)=false:=by simpa using q
   rw [if_neg q] at hCE;rw [hCE,if_neg q] at hI;rw [<- hI,if_neg q] at hE;rw [hE];simp only [if_neg q];simp only [go_sem,seval,bne,d];(with_reducible and_intros)<;>first|exact .dq|omega|skip
   all_goals simp [af.zero,pl]
  rw [if_pos q] at hCE;rw [q];simp only [go_sem,seval];(with_reducible and_intros)<;>first|exact .dq|omega|skip
  refine aa.pure cFc ?_;rw [<- hCE]
  by_cases q2:uI s w c=0
  ·rw [if_pos q2] at hI;rw [q2];simp only [go_sem,seval,bne,aI,zo,hl1,hl2,hwc];(with_reducible and_intros)<;>first|exact .dq|omega|skip
   refine ah.step () hc (by rw [hm2];exact hI) ?_;simp only [go_sem,seval,hst1,hst2']<;>simp
  ·have d:(uI s w c==0)=false:=by simpa using q2
   rw [if_neg q2] at hI;rw [<- hI,if_neg q2] at hE;rw [hE];simp only [if_neg q2];simp only [go_sem,seval,bne,d];(with_reducible and_intros)<;>first|exact .dq|omega|skip
   all_goals simp [af.zero,pl]
 intro _ _ hI;have hI:F2=0:=hI.symm;rw [if_pos hI] at hE;have hCE0:∀ c < 3,uI s w c=0:=fun c h=>vQ (hF2.symm.trans hI) c (by omega) (by omega)
 clear cC cF hI;have hFl:=oM (gl s w) 3;have hFat:∀ c,c < 3->(yK (gl s w) 3)[c]?=some (gl s w c):=fun c h=>by simp [yK,h]
 have hCl:(jC (yK (fW s w) 3)).length=3:=by rw [zo,oM]
 have hCat:∀ c,c < 3->(jC (yK (fW s w) 3)).getD c []=[.sl 1 (ints (fW s w c))]:=fun c h=>by
  rw [Lc _ (by rw [oM];exact h)];simp [yK]
 obtain ⟨FS,hFS⟩:=aO (yK (gl s w) 3);simp only [<- hFS] at hFl hFat;obtain ⟨CS,hCS⟩:=aO (jC (yK (fW s w) 3));simp only [<- hCS] at hCl hCat;rw [<- hCS];obtain ⟨R,hR⟩:=aO (nh s w 3 0 s.bE []);simp only [<- hR] at hE |-;clear hCS;have hlf:s.bE.fY:=⟨hlb,hr.bs,hr.last⟩
 simp only [go_sem,seval,<- hFS];(with_reducible and_intros)<;>first|exact .dq|omega|skip
 refine aB.walk (S:=bn × List aN) 3 [1,2,4,8,9,12,13,15,19] [48,80,144,160,1024,1584,1648] (fun i _=>[(25,.int .i64 i),(14,.ref 2544)])
  (fun _ x=>[(208,.box [.int .i64 s.now,.int .i64 s.day,.int .i64 s.phase,.sl 3 (s.aj.ms.map ak.cells),.sl 12 (s.aj.ns.map ay.cells),.sl 4 (s.aj.xs.map av.cells),.int .i64 s.book.next,.sl 7 (s.book.ts.map aL.cells),.sl 4 (s.book.qs.map aA.cells),
   .int .i64 x.1.last,.sl 4 (x.1.bs.map bJ.cells),.sl 3 (pl s.ps),.sl 4 (s.calls.map au.cells),.sl 5 (s.aT.map bp.cells),.sl 7 (s.aM.map bu.cells)]),(2544,.own 3 (x.2.map aN.cells))])
  (fun i x=>nh s w (3-i) i x.1 x.2=R/\x.1.fY/\x.2.length<=i) (s.bE,[]) ⟨hR.symm,hlf,Nat.le_refl _⟩ ?_ ?_ ?_
 ·simp only [go_sem,seval]<;>simp
 ·intro c x hc hdc hwc hI;obtain ⟨L,p⟩:=x;obtain ⟨hI,hLf,hpl⟩:=hI;dsimp only at hI hLf hpl |-;have hdc:decide ((c:Int) < 3)=true:=hdc;obtain ⟨m,hm⟩:∃ m,3-c=m+1:=⟨3-c-1,by omega⟩
  have hm2:3-(c+1)=m:=by omega
  rw [hm] at hI;simp only [nh] at hI;have hcg:c < GS.length:=by omega
  have hcf:c < FS.length:=by omega
  have hmg:=ints_at GS hcg
  have hga:GS[c]=bL s w c:=by
   have:=hGat c hc;rw [List.getElem?_eq_getElem hcg] at this;exact Option.some.inj this
  rw [hga] at hmg;have hmf:=aD (c:=ck.cells) FS hcf
  have hfa:FS[c]=gl s w c:=by
   have:=hFat c hc;rw [List.getElem?_eq_getElem hcf] at this;exact Option.some.inj this
  rw [hfa] at hmf;have hmc:=hCat c hc;have hlc:(c:Int) < (GS.length:Int):=by omega
  have hlf:(c:Int) < (FS.length:Int):=by omega
  have hlk:(c:Int) < (CS.length:Int):=by omega
  have hc0:=hCE0 c hc;unfold uI at hc0
  have hcE:oH s w c (bL s w c)=0:=by
   split at hc0
   ·assumption
   ·exact hc0
  rw [if_pos hcE] at hc0;obtain ⟨a,b,rest,ho,hrl⟩:=Pc hcE;have ho:fW s w c=a :: b :: rest:=ho;obtain ⟨hx,hy⟩:=RF hc0 ho;have cXc:=cX c (bL s w c) (gl s w c) (fW s w c) a b rest ho (by omega) hx hy;have hA:iw s w c=kk s w c (bL s w c) (gl s w c) a b:=by unfold iw;rw [ho];rfl
  rw [<- hA] at cXc
  have hgl:(iw s w c).1.length<=306:=by
   rw [hA];unfold kk;split
   ·split
    ·split
     ·exact tR _
     ·simp
    ·simp
   ·simp
  have cPc:=fun h=>cP L (nextId L) (iw s w c).1 (by have:=hLf.1;omega) hLf.2.1 h
  have cPc:=cPc (by omega);simp only [nextId] at cPc;have hPf:=KE hLf (iw s w c).1 (iw s w c).2.2;obtain ⟨g,hg⟩:=aO ((iw s w c).1);obtain ⟨n,hn⟩:=aO ((iw s w c).2.1);obtain ⟨e,he⟩:=aO ((iw s w c).2.2);simp only [<- hg,<- hn,<- he] at cXc cPc hPf hI hgl;obtain ⟨fl,hfl⟩:=aO (gl s w c);rw [<- hfl] at hmf cXc;simp only [ck.cells] at hmf;clear cX cP hA hg hn he hGat hFat hCat hx hy hc0 hcE hCE0 cPut cW hfl;simp only [go_sem,seval,hdc,az,aI,hmg,hmf,hmc];(with_reducible and_intros)<;>first|exact .dq|omega|skip
  refine aa.pure cXc ?_
  by_cases q1:e=0
  case neg =>
   have d:(e==0)=false:=by simpa using q1
   have hp0:fB L g e=(L,e):=by simp [fB,q1]
   rw [hp0] at hI;dsimp only at hI;rw [if_neg q1] at hI;rw [hE,<- hI];simp only [if_neg q1];simp only [go_sem,seval,bne,d];(with_reducible and_intros)<;>first|exact .dq|omega|skip
   all_goals simp [af.zero,pl]
  rw [q1] at hI hPf |-
  by_cases q2:g=[]
  ·have hp0:fB L g 0=(L,0):=by simp [fB,q2]
   rw [hp0] at hI hPf;dsimp only at hI hPf;rw [if_pos rfl] at hI;rw [q2];simp only [go_sem,seval,List.map_nil,List.length_nil];(with_reducible and_intros)<;>first|exact .dq|omega|skip
   by_cases q3:n=0
   ·have hI:nh s w m (c+1) L p=R:=by rw [<- hI];simp [mO,q3]
    rw [q3];simp only [go_sem,seval,bne,hwc];(with_reducible and_intros)<;>first|exact .dq|omega|skip
    refine ah.step (L,p) hc ⟨by rw [hm2];exact hI,hPf,by dsimp only;omega⟩ ?_;simp only [go_sem,seval]<;>simp
   ·have d:(n==0)=false:=by simpa using q3
    have hI:nh s w m (c+1) L (p++[⟨w,c,n⟩])=R:=by rw [<- hI];simp [mO,q3]
    simp only [go_sem,seval,bne,d,hwc,aI];(with_reducible and_intros)<;>first|exact .dq|omega|skip
    refine ah.step (L,p++[⟨w,c,n⟩]) hc ⟨by rw [hm2];exact hI,hPf,by simp;omega⟩ ?_;simp only [go_sem,seval]<;>simp
  have hgp:decide ((0:Int) < (g.length:Int))=true:=by
   have:g.length≠0:=fun h=>q2 (List.eq_nil_of_length_eq_zero h)
   simp;omega
  have hp0:fB L g 0=(gH L (nextId L) g,eO L (nextId L) g):=by simp [fB,q2]
  simp only [nextId] at hp0;obtain ⟨M,hM⟩:=aO (gH L (IntKind.wrap .i64 (L.last+1)) g);obtain ⟨e2,he2⟩:=aO (eO L (IntKind.wrap .i64 (L.last+1)) g);rw [<- hM,<- he2] at hp0 cPc;rw [hp0] at hI hPf;dsimp only at hI hPf;simp only [go_sem,seval,aI,hgp];(with_reducible and_intros)<;>first|exact .dq|omega|skip
  refine aa.pure cPc ?_;clear cPc hM he2 cXc
  by_cases q4:e2=0
  case neg =>
   have d:(e2==0)=false:=by simpa using q4
   rw [if_neg q4] at hI;rw [hE,<- hI];simp only [if_neg q4];simp only [go_sem,seval,bne,d];(with_reducible and_intros)<;>first|exact .dq|omega|skip
   all_goals simp [af.zero,pl]
  rw [q4] at hI |-;rw [if_pos rfl] at hI;simp only [go_sem,seval];(with_reducible and_intros)<;>first|exact .dq|omega|skip
  by_cases q3:n=0
  ·have hI:nh s w m (c+1) M p=R:=by rw [<- hI];simp [mO,q3]
   rw [q3];simp only [go_sem,seval,bne,hwc];(with_reducible and_intros)<;>first|exact .dq|omega|skip
   refine ah.step (M,p) hc ⟨by rw [hm2];exact hI,hPf,by dsimp only;omega⟩ ?_;simp only [go_sem,seval]<;>simp
  ·have d:(n==0)=false:=by simpa using q3
   have hI:nh s w m (c+1) M (p++[⟨w,c,n⟩])=R:=by rw [<- hI];simp [mO,q3]
   simp only [go_sem,seval,bne,d,hwc,aI];(with_reducible and_intros)<;>first|exact .dq|omega|skip
   refine ah.step (M,p++[⟨w,c,n⟩]) hc ⟨by rw [hm2];exact hI,hPf,by simp;omega⟩ ?_;simp only [go_sem,seval]<;>simp
 rintro ⟨L,p⟩ _ ⟨hI,hLf,hpl⟩
 have hI:(L,p,(0:Int))=R:=hI;subst hI;dsimp only at hE hLf hpl |-;rw [hE];clear hE cX cP hGat hFat hCat hCE0 hGl hCl hlf hF1 hF2 hR;simp only [go_sem,seval];(with_reducible and_intros)<;>first|exact .dq|omega|skip
 refine aa.pure cPut ?_;simp only [go_sem,seval];(with_reducible and_intros)<;>first|exact .dq|omega|skip
 refine aa.gen [2768] [] false (by simp) ?_;simp only [go_sem,seval];refine bg.intro cW ?_;clear cPut cW;have hpsl:=hs.ps;obtain ⟨PU,hPU⟩:=aO (gp s.aj w 3);obtain ⟨PB,hPB⟩:=aO (oC s w);obtain ⟨WL,hWL⟩:=aO (bM s.calls [w]);rw [<- hPU,<- hPB,<- hWL];clear hPU hPB hWL;simp only [go_sem,seval];(with_reducible and_intros)<;>first|exact .dq|omega|skip
 refine aB.walk (S:=Unit) s.ps.length [1,2,4,12,13,14] [48,80,1584,2544] (fun i _=>[(29,.int .i64 i)])
  (fun i _=>[(208,.box [.int .i64 s.now,.int .i64 s.day,.int .i64 s.phase,.sl 3 (PU.ms.map ak.cells),.sl 12 (PU.ns.map ay.cells),.sl 4 (PU.xs.map av.cells),.int .i64 PB.next,.sl 7 (PB.ts.map aL.cells),.sl 4 (PB.qs.map aA.cells),
   .int .i64 L.last,.sl 4 (L.bs.map bJ.cells),.ref 3200,.sl 4 (WL.map au.cells),.sl 5 (s.aT.map bp.cells),.sl 7 (s.aM.map bu.cells)]),(3200,.own 3 (pl (pK w (s.ps.take i))))])
  (fun _ _=>True) () trivial ?_ ?_ ?_
 ·simp only [go_sem,seval]<;>simp [pK,pl]
 ·intro i _ hi hdi hwi _;have hm:=jX s.ps hi;have hli:(i:Int) < (s.ps.length:Int):=by omega
  have hlt:(s.ps.take i).length=i:=by simp;omega
  have hs1:pK w (s.ps.take (i+1))=pK w (s.ps.take i)++_:=fA _ hi;have hkl:=Ln w (s.ps.take i);obtain ⟨x,hx⟩:=aO (s.ps[i]);rw [<- hx] at hm hs1;obtain ⟨K,hK⟩:=aO (pK w (s.ps.take i));rw [<- hK] at hs1 hkl;rw [<- hK];have hp2:pl (K++[x])=pl K++[[.int .i64 x.who,.int .i64 x.bF,.int .i64 x.units]]:=by simp [pl,eW.cells]
  cases q1:x.who==w
  ·simp only [q1,ir,if_false] at hs1;simp only [go_sem,seval,nF,hdi,hm,bne,q1,hwi];(with_reducible and_intros)<;>first|exact .dq|omega|skip
   refine ah.step () hi trivial ?_;simp only [go_sem,seval,hs1,hp2]<;>simp
  ·simp only [q1,if_true,List.append_nil] at hs1;simp only [go_sem,seval,nF,hdi,hm,bne,q1,hwi];(with_reducible and_intros)<;>first|exact .dq|omega|skip
   refine ah.step () hi trivial ?_;simp only [go_sem,seval,hs1]<;>simp
 intro _ hdx _;simp only [go_sem,seval,nF,hdx,List.take_length,aI];(with_reducible and_intros)<;>first|exact .dq|omega|skip
 have hbsl:=hs.aT
 refine aB.walk (S:=Unit) s.aT.length [1,2,4,12,13,14] [48,80,1584,2544,3200] (fun i _=>[(30,.int .i64 i)])
  (fun i _=>[(208,.box [.int .i64 s.now,.int .i64 s.day,.int .i64 s.phase,.sl 3 (PU.ms.map ak.cells),.sl 12 (PU.ns.map ay.cells),.sl 4 (PU.xs.map av.cells),.int .i64 PB.next,.sl 7 (PB.ts.map aL.cells),.sl 4 (PB.qs.map aA.cells),
   .int .i64 L.last,.sl 4 (L.bs.map bJ.cells),.ref 3200,.sl 4 (WL.map au.cells),.ref 3792,.sl 7 (s.aM.map bu.cells)]),(3792,.own 5 ((pz w (s.aT.take i)).map bp.cells))])
  (fun _ _=>True) () trivial ?_ ?_ ?_
 ·simp only [go_sem,seval]<;>simp [pz]
 ·intro i _ hi hdi hwi _;have hm:=aD (c:=bp.cells) s.aT hi;have hli:(i:Int) < (s.aT.length:Int):=by omega
  have hlt:(s.aT.take i).length=i:=by simp;omega
  have hs1:pz w (s.aT.take (i+1))=pz w (s.aT.take i)++_:=fA _ hi;have hkl:=Cs w (s.aT.take i);obtain ⟨x,hx⟩:=aO (s.aT[i]);rw [<- hx] at hm hs1;obtain ⟨K,hK⟩:=aO (pz w (s.aT.take i));rw [<- hK] at hs1 hkl;rw [<- hK];cases q1:x.who==w
  ·cases q2:x.src==w
   ·simp only [q1,q2,Bool.or_self,ir,if_false] at hs1;simp only [go_sem,seval,aI,hdi,hm,bne,q1,q2,hwi];(with_reducible and_intros)<;>first|exact .dq|omega|skip
    refine ah.step () hi trivial ?_;simp only [go_sem,seval,hs1]<;>simp
   ·simp only [q1,q2,Bool.false_or,if_true,List.append_nil] at hs1;simp only [go_sem,seval,aI,hdi,hm,bne,q1,q2,hwi];(with_reducible and_intros)<;>first|exact .dq|omega|skip
    refine ah.step () hi trivial ?_;simp only [go_sem,seval,hs1]<;>simp
  ·simp only [q1,Bool.true_or,if_true,List.append_nil] at hs1;simp only [go_sem,seval,aI,hdi,hm,bne,q1,hwi];(with_reducible and_intros)<;>first|exact .dq|omega|skip
   refine ah.step () hi trivial ?_;simp only [go_sem,seval,hs1]<;>simp
 intro _ hdx2 _;simp only [go_sem,seval,aI,hdx2,List.take_length]
theorem JL (s:af) (w:Int) (hs:s.small) (hr:s.dz) (hm:s.aj.ms.length < 2 ^ 27) (hq:s.book.qs.length < 2 ^ 20) (hbl:s.aT.length < 2 ^ 20) (hlb:s.bE.bs.length < 2 ^ 29) :
  Abs.Spec Tryz.prog 88 [] [.agg s.cells,.int .i64 w] [] (.bD [.agg (lz s w).cells,.sl 8 ((He s w).map ck.cells),.sl 3 ((G7 s w).map aN.cells),.int .i64 (ur s w)]):=by
 refine Spec.frozen (LZ s w hs hr hm hq hbl hlb) [0,1,2,3] rfl ?_;intro r;rcases r with _ | _ | _ | _ | r<;>rfl
def iD (s:af):List aN:=(jt (oZ s.aj s.book)).1
def v8 (s:af):bn × Int:=fB s.bE (oo (iD s)) (qm (iD s))
def gL (s:af):Int:=if bA s then (if s.phase=0 then (if um s.aj s.book=0 then (if (jt (oZ s.aj s.book)).2=0 then (v8 s).2 else (jt (oZ s.aj s.book)).2) else um s.aj s.book) else 15) else 14
def jB (s:af):af:=if gL s=0 then { s with phase:=1,aj:=KM s.aj,book:=vf s.aj s.book,bE:=(v8 s).1 } else .zero
def oR (s:af):List aN:=if gL s=0 then iD s else []
theorem OE (l:List aN):(oo l).length<=306:=by
 unfold oo;split
 ·exact tR _
 ·simp
theorem Rk (r:aq) (b:aG):(oZ r b).length<=b.qs.length:=by
 unfold oZ;split<;>simp
theorem sH {s:af} (h:bA s=true):0<=s.now/\s.now<=1099511627776/\0<=s.day/\s.day<=1099511627776/\0<=s.phase/\s.phase<=2:=by
 simp only [bA,oV,within,cg,decide_eq_true_eq] at h;have:=h.1;omega
theorem CF (s:af) (hs:s.small) (hr:s.dz) (hq:s.book.qs.length < 2 ^ 20) :
  Abs.Spec Tryz.prog 83 [] [.agg s.cells] [] (.bD [.agg (jB s).cells,.sl 3 ((oR s).map aN.cells),.int .i64 (gL s)]):=by
 have c1:=gC s hs hr;have c2:=aP s hs;have c3:=Is s.aj s.book hs.aj hs.book hr.qs;have hdl:=Rk s.aj s.book;have c4:=ze (oZ s.aj s.book) (by omega);have hnl:=(HA (oZ s.aj s.book)).2;have c5:=zM (iD s) (by unfold iD;omega);have hgl:=OE (iD s);have c6:=pH s.bE (nextId s.bE) (oo (iD s)) hs.bE hr.bs (by omega);have c7:=GG s.aj hs.aj;obtain ⟨E,hE⟩:=aO (gL s);have hE0:=hE;simp only [gL] at hE;simp only [jB,oR,<- hE0];clear hE0;obtain ⟨P,hP⟩:=aO (v8 s);rw [<- hP] at hE |-;simp only [v8] at hP;have e1:(jt (oZ s.aj s.book)).1=iD s:=rfl;rw [e1] at c4;clear e1;obtain ⟨N,hN⟩:=aO (iD s);obtain ⟨ne,hne⟩:=aO ((jt (oZ s.aj s.book)).2);rw [<- hN] at c4 c5 c6 hP hgl |-;rw [<- hne] at c4 hE;clear hN hne hnl;obtain ⟨g,hg⟩:=aO (oo N);obtain ⟨ge,hge⟩:=aO (qm N);rw [<- hg] at c5 c6 hP hgl;rw [<- hge] at c5 hP;clear hg hge;simp only [af.cells] at c1 c2 |-;simp only [aG.cells] at c3;simp only [aq.cells] at c3 c7;simp only [bn.cells,nextId] at c6;simp only [nextId,fB] at hP;obtain ⟨RD,hRD⟩:=aO (oZ s.aj s.book);obtain ⟨RB,hRB⟩:=aO (vf s.aj s.book);obtain ⟨re,hre⟩:=aO (um s.aj s.book);rw [<- hRD] at c3 c4;rw [<- hRB] at c3 |-;rw [<- hre] at c3 hE;clear hRD hRB hre hdl;refine aU 82 1 [.cell 2 42,.tmp 3,.tmp 4] mixed Tryz.func83 ?_;simp only [go_sem,seval];(with_reducible and_intros)<;>first|exact .dq|omega|skip
 refine aa.pure c1 ?_;cases b1:bA s
 ·rw [b1] at hE;rw [hE];simp only [go_sem,seval]<;>simp [af.zero,pl]
 rw [b1,if_pos rfl] at hE;simp only [go_sem,seval];(with_reducible and_intros)<;>first|exact .dq|omega|skip
 by_cases b2:s.phase=0
 case neg =>
  have d:(s.phase==0)=false:=by simpa using b2
  rw [if_neg b2] at hE;rw [hE];simp only [go_sem,seval,bne,d]<;>simp [af.zero,pl]
 rw [if_pos b2] at hE;rw [b2] at c1 c2 |-;simp only [go_sem,seval];(with_reducible and_intros)<;>first|exact .dq|omega|skip
 refine aa.pure c3 ?_;clear c1 c3
 by_cases b3:re=0
 case neg =>
  have d:(re==0)=false:=by simpa using b3
  rw [if_neg b3] at hE;rw [hE];simp only [if_neg b3];simp only [go_sem,seval,bne,d]<;>simp [af.zero,pl]
 rw [if_pos b3] at hE;rw [b3];simp only [go_sem,seval];(with_reducible and_intros)<;>first|exact .dq|omega|skip
 refine aa.pure c4 ?_
 by_cases b4:ne=0
 case neg =>
  have d:(ne==0)=false:=by simpa using b4
  rw [if_neg b4] at hE;rw [hE];simp only [if_neg b4];simp only [go_sem,seval,bne,d]<;>simp [af.zero,pl]
 rw [if_pos b4] at hE;rw [b4];clear c4;simp only [go_sem,seval];(with_reducible and_intros)<;>first|exact .dq|omega|skip
 refine aa.pure c2 ?_;simp only [go_sem,seval];(with_reducible and_intros)<;>first|exact .dq|omega|skip
 refine aa.pure c5 ?_;clear c2 c5
 by_cases q1:ge=0
 case neg =>
  have d:(ge==0)=false:=by simpa using q1
  rw [if_neg (by simp [q1])] at hP;rw [hE,hP];simp only [if_neg q1];simp only [go_sem,seval,bne,d]<;>simp [af.zero,pl]
 rw [q1] at hP |-
 by_cases q2:g=[]
 ·rw [if_neg (by simp [q2])] at hP;rw [hE,hP,q2];simp only [go_sem,seval,List.map_nil,List.length_nil];(with_reducible and_intros)<;>first|exact .dq|omega|skip
  refine aa.pure c7 ?_;simp only [go_sem,seval]
 have hgp:decide ((0:Int) < (g.length:Int))=true:=by
  have:g.length≠0:=fun h=>q2 (List.eq_nil_of_length_eq_zero h)
  simp;omega
 rw [if_pos ⟨rfl,q2⟩] at hP;obtain ⟨M,hM⟩:=aO (gH s.bE (IntKind.wrap .i64 (s.bE.last+1)) g);obtain ⟨e2,he2⟩:=aO (eO s.bE (IntKind.wrap .i64 (s.bE.last+1)) g);rw [<- hM,<- he2] at hP c6;simp only [go_sem,seval,aI,hgp];(with_reducible and_intros)<;>first|exact .dq|omega|skip
 refine aa.pure c6 ?_
 by_cases q4:e2=0
 case neg =>
  have d:(e2==0)=false:=by simpa using q4
  rw [hE,hP];simp only [if_neg q4];simp only [go_sem,seval,bne,d]<;>simp [af.zero,pl]
 rw [hE,hP,q4];simp only [go_sem,seval];(with_reducible and_intros)<;>first|exact .dq|omega|skip
 refine aa.pure c7 ?_;simp only [go_sem,seval]
def rL (s:af):Int:=if bA s then (if s.phase=2 then (if s.day=1099511627776 then 1 else 0) else 15) else 14
def rA (s:af):af:=if rL s=0 then { s with day:=s.day+1,phase:=0,book:=⟨s.book.next,[],s.book.qs⟩ } else .zero
theorem zZ (s:af) (hs:s.small) (hr:s.dz):Abs.Spec Tryz.prog 85 [] [.agg s.cells] [] (.bD [.agg (rA s).cells,.int .i64 (rL s)]):=by
 have c1:=gC s hs hr;have c2:=aP s hs;have hck:=fun h=>sH (s:=s) h
 obtain ⟨E,hE⟩:=aO (rL s);have hE0:=hE;simp only [rL] at hE;simp only [rA,<- hE0];clear hE0;simp only [af.cells] at c1 c2 |-;refine aU 32 1 [.cell 2 42,.tmp 3] mixed Tryz.func85 ?_;simp only [go_sem,seval];(with_reducible and_intros)<;>first|exact .dq|omega|skip
 refine aa.pure c1 ?_;cases b1:bA s
 ·rw [b1] at hE;rw [hE];simp only [go_sem,seval]<;>simp [af.zero,pl]
 have hck:=hck b1;rw [b1,if_pos rfl] at hE;simp only [go_sem,seval];(with_reducible and_intros)<;>first|exact .dq|omega|skip
 by_cases b2:s.phase=2
 case neg =>
  have d:(s.phase==2)=false:=by simpa using b2
  rw [if_neg b2] at hE;rw [hE];simp only [go_sem,seval,bne,d]<;>simp [af.zero,pl]
 rw [if_pos b2] at hE;rw [b2] at c1 c2 |-;simp only [go_sem,seval];(with_reducible and_intros)<;>first|exact .dq|omega|skip
 by_cases b3:s.day=1099511627776
 ·rw [if_pos b3] at hE;rw [hE,b3];simp only [go_sem,seval]<;>simp [af.zero,pl]
 have d:(s.day==1099511627776)=false:=by simpa using b3
 have hw:IntKind.wrap .i64 (s.day+1)=s.day+1:=bz (by omega) (by omega);rw [if_neg b3] at hE;rw [hE];simp only [go_sem,seval,d];(with_reducible and_intros)<;>first|exact .dq|omega|skip
 refine aa.pure c2 ?_;simp only [go_sem,seval,hw]<;>simp
def au.due (c:au):aN:=⟨c.who,c.cur,c.bX⟩
def eL:List au->aq × List au->aq × List au
 | [],x=>x
 | c :: r,x=>eL r (gp x.1 c.who 2,bM x.2 [c.who])
def dL (s:af) (n:Int):Int:=if bA s then (if within n 1 1000 then (if 1099511627776 < s.now+n then 1 else 0) else 3) else 14
def cE (s:af) (n:Int):af:=if dL s n=0 then { s with now:=s.now+n,aj:=(eL (dQ (s.now+n) s.calls) (s.aj,s.calls)).1,calls:=(eL (dQ (s.now+n) s.calls) (s.aj,s.calls)).2 } else .zero
def jk (s:af) (n:Int):List aN:=if dL s n=0 then (dQ (s.now+n) s.calls).map au.due else []
theorem QG {A:Type} (no:A->Int) (n:Int) (f:A->A) (l:List A):(rT no n f l).length<=l.length:=by
 induction l with
 | nil=>simp [rT]
 | cons x r ih=>simp only [rT];split<;>simp<;>omega
theorem FZ {r:aq} (h:r.gZ) (n p:Int):(gp r n p).gZ:=by
 unfold gp;split
 ·obtain ⟨h1,h2,h3⟩:=h;exact ⟨Nat.lt_of_le_of_lt (QG _ _ _ _) h1,h2,h3⟩
 ·exact ⟨by simp [aq.none],by simp [aq.none],by simp [aq.none]⟩
theorem xk (xs:List au) (ws:List Int):(bM xs ws).length<=xs.length:=by
 have:=dZ (f:=fun x:au=>if qg ws x.who then [] else [x]) (m:=1) (fun p=>by split<;>simp) xs;simpa [bM] using this
theorem FN (n:Int) (xs:List au):(dQ n xs).length<=xs.length:=by
 have:=dZ (f:=fun x:au=>if x.till<=n then [x] else []) (m:=1) (fun p=>by split<;>simp) xs;simpa [dQ] using this
theorem agn (n0 n1 n2 n3 n4:Int) (r0 r1 r2 r3 r4 r5 r6 r7 r8 r9:List (List D)):(fE [0,1,2,3,4,5,6,8,9] (td [(0,.agg [.int .i64 n0,.int .i64 n1,.int .i64 n2,.ref 0,.ref 1,.ref 2,.int .i64 n3,.ref 3,.ref 4,.int .i64 n4,.ref 5,.ref 6,.ref 7,.ref 8,.ref 9])] (qO 0 [.own 3 r0,.own 12 r1,.own 4 r2,.own 7 r3,.own 4 r4,.own 4 r5,.own 3 r6,.own 4 r7,.own 5 r8,.own 7 r9]))).t 0=.agg [.int .i64 n0,.int .i64 n1,.int .i64 n2,.sl 3 r0,.sl 12 r1,.sl 4 r2,.int .i64 n3,.sl 7 r3,.sl 4 r4,.int .i64 n4,.sl 4 r5,.sl 3 r6,.ref 7,.sl 5 r8,.sl 7 r9]:=by
 kernel_rfl
theorem aao (d:D) (r0 r1 r2 r3 r4 r5 r6 r7 r8 r9:List (List D)) (r:Nat):(fE [0,1,2,3,4,5,6,8,9] (td [(0,d)] (qO 0 [.own 3 r0,.own 12 r1,.own 4 r2,.own 7 r3,.own 4 r4,.own 4 r5,.own 3 r6,.own 4 r7,.own 5 r8,.own 7 r9]))).o r=[D.undef,.undef,.undef,.undef,.undef,.undef,.undef,.own 4 r7].getD r .undef:=by
 rcases r with _ | _ | _ | _ | _ | _ | _ | _ | _ | _ | r<;>kernel_rfl
theorem JD (s:af) (hs:s.small):Abs.Spec Tryz.prog 27 [] [.agg s.cells] [.undef,.undef,.undef,.undef,.undef,.undef,.undef,.own 4 (s.calls.map au.cells)] (.agg [.int .i64 s.now,.int .i64 s.day,.int .i64 s.phase,.sl 3 (s.aj.ms.map ak.cells),.sl 12 (s.aj.ns.map ay.cells),.sl 4 (s.aj.xs.map av.cells),.int .i64 s.book.next,.sl 7 (s.book.ts.map aL.cells),.sl 4 (s.book.qs.map aA.cells),
 .int .i64 s.bE.last,.sl 4 (s.bE.bs.map bJ.cells),.sl 3 (pl s.ps),.ref 7,.sl 5 (s.aT.map bp.cells),.sl 7 (s.aM.map bu.cells)]):=by
 have h:=nS s hs;simp only [JV,Bm] at h;simp only [af.cells];simp only [af.cells] at h;exact Spec.frozen h [0,1,2,3,4,5,6,8,9] (agn ..) (fun r=>aao ..)
theorem KS (s : af) (n : Int) (hs : s.small) (hr : s.dz) : Abs.Spec Tryz.prog 86 [] [.agg s.cells, .int .i64 n] [.own 4 ((cE s n).calls.map au.cells), .own 3 ((jk s n).map aN.cells)] (.bD [.agg [.int .i64 (cE s n).now, .int .i64 (cE s n).day, .int .i64 (cE s n).phase, .sl 3 ((cE s n).aj.ms.map ak.cells), .sl 12 ((cE s n).aj.ns.map ay.cells), .sl 4 ((cE s n).aj.xs.map av.cells), .int .i64 (cE s n).book.next, .sl 7 ((cE s n).book.ts.map aL.cells), .sl 4 ((cE s n).book.qs.map aA.cells),
        .int .i64 (cE s n).bE.last, .sl 4 ((cE s n).bE.bs.map bJ.cells), .sl 3 (pl (cE s n).ps), .ref 0, .sl 5 ((cE s n).aT.map bp.cells), .sl 7 ((cE s n).aM.map bu.cells)], .ref 1, .int .i64 (dL s n)]) := by
  have c1 := gC s hs hr
  have c2 := JD s hs
  have c3 := fG n 1 1000
  have c4 := fun m => HC m s.calls hs.calls
  have hck := fun h => sH (s := s) h
  obtain ⟨E, hE⟩ : ∃ E, E = dL s n := ⟨_, rfl⟩
  have hE0 := hE
  simp only [dL] at hE
  simp only [cE, jk, ← hE0]
  clear hE0
  simp only [af.cells] at c1 c2 ⊢
  refine aU 85 2 [.cell 4 42, .tmp 5, .tmp 6] mixed Tryz.func86 ?_
  simp only [go_sem, seval]
  (with_reducible and_intros)<;>first|exact .dq|omega|skip
  refine aa.pure c1 ?_
  cases b1 : bA s
  · rw [b1] at hE
    rw [hE]
    simp only [go_sem, seval] <;> simp [af.zero, pl]
  have hck := hck b1
  rw [b1, if_pos rfl] at hE
  simp only [go_sem, seval]
  (with_reducible and_intros)<;>first|exact .dq|omega|skip
  refine aa.pure c3 ?_
  cases b2 : within n 1 1000
  · rw [b2] at hE
    rw [hE]
    simp only [go_sem, seval] <;> simp [af.zero, pl]
  rw [b2, if_pos rfl] at hE
  simp only [within, Bool.and_eq_true, decide_eq_true_eq] at b2
  have hw : IntKind.wrap .i64 (s.now + n) = s.now + n := bz (by omega) (by omega)
  simp only [go_sem, seval, hw]
  (with_reducible and_intros)<;>first|exact .dq|omega|skip
  by_cases b3 : 1099511627776 < s.now + n
  · rw [if_pos b3] at hE
    have d : decide (1099511627776 < s.now + n) = true := by simpa using b3
    rw [hE]
    simp only [go_sem, seval, d] <;> simp [af.zero, pl]
  rw [if_neg b3] at hE
  have d : decide (1099511627776 < s.now + n) = false := by simpa using b3
  rw [hE]
  have c4 := c4 (s.now + n)
  have hll := FN (s.now + n) s.calls
  have hcl := hs.calls
  obtain ⟨N, hN⟩ : ∃ N, N = s.now + n := ⟨_, rfl⟩
  have hw := hw.trans hN.symm
  rw [← hN] at d c4 hll ⊢
  obtain ⟨l, hl⟩ : ∃ l, l = dQ N s.calls := ⟨_, rfl⟩
  rw [← hl] at c4 hll ⊢
  simp only [go_sem, seval, d]
  (with_reducible and_intros)<;>first|exact .dq|omega|skip
  refine aa.gen [] [] false (by simp) ?_
  simp only [go_sem, seval]
  refine bg.intro c2 ?_
  simp only [go_sem, seval, hw]
  (with_reducible and_intros)<;>first|exact .dq|omega|skip
  refine aa.pure c4 ?_
  clear c1 c2 c3 c4 hl hN
  simp only [go_sem, seval, List.length_map]
  (with_reducible and_intros)<;>first|exact .dq|omega|skip
  obtain ⟨R, hR⟩ : ∃ R, R = eL l (s.aj, s.calls) := ⟨_, rfl⟩
  rw [← hR]
  refine aB.walk (S := aq × List au) l.length [4, 7, 8] [80] (fun i _ => [(11, .int .i64 i), (10, .ref 944)])
    (fun i x => [(471, .own 4 (x.2.map au.cells)), (128, .box [.int .i64 N, .int .i64 s.day, .int .i64 s.phase, .sl 3 (x.1.ms.map ak.cells), .sl 12 (x.1.ns.map ay.cells), .sl 4 (x.1.xs.map av.cells), .int .i64 s.book.next, .sl 7 (s.book.ts.map aL.cells), .sl 4 (s.book.qs.map aA.cells),
      .int .i64 s.bE.last, .sl 4 (s.bE.bs.map bJ.cells), .sl 3 (pl s.ps), .ref 471, .sl 5 (s.aT.map bp.cells), .sl 7 (s.aM.map bu.cells)]), (944, .own 3 (((l.take i).map au.due).map aN.cells))])
    (fun i x => eL (l.drop i) x = R ∧ x.1.gZ ∧ x.2.length < 2 ^ 30) (s.aj, s.calls) ⟨hR.symm, hs.aj, hs.calls⟩ ?_ ?_ ?_
  · simp only [go_sem, seval] <;> simp
  · intro i x hi hdi hwi hI
    obtain ⟨ro, cs⟩ := x
    obtain ⟨hI, ht, hcs⟩ := hI
    dsimp only at hI ht hcs ⊢
    have hm := aD (c := au.cells) l hi
    have hli : (i : Int) < (l.length : Int) := by omega
    have hlt : ((l.take i).map au.due).length = i := by simp; omega
    have hs1 : (l.take (i + 1)).map au.due = (l.take i).map au.due ++ [au.due l[i]] := by
      rw [List.take_add_one, List.getElem?_eq_getElem hi, List.map_append]; rfl
    rw [dJ hi] at hI
    simp only [eL] at hI
    obtain ⟨x, hx⟩ : ∃ x, x = l[i] := ⟨_, rfl⟩
    rw [← hx] at hm hs1 hI
    have cP := zm ro x.who 2 ht
    have cW := th cs [x.who] hcs (by simp)
    have ht2 := FZ ht x.who 2
    have hcs2 := xk cs [x.who]
    obtain ⟨T, hT⟩ : ∃ T, T = (l.take i).map au.due := ⟨_, rfl⟩
    rw [← hT] at hs1 hlt ⊢
    simp only [au.due] at hs1
    simp only [aq.cells] at cP
    simp only [ints, List.map_cons, List.map_nil] at cW
    obtain ⟨Q, hQ⟩ : ∃ Q, Q = gp ro x.who 2 := ⟨_, rfl⟩
    obtain ⟨W, hW⟩ : ∃ W, W = bM cs [x.who] := ⟨_, rfl⟩
    rw [← hQ] at hI cP ht2
    rw [← hW] at hI cW hcs2
    simp only [go_sem, seval, List.length_map, hdi, hm, hlt]
    (with_reducible and_intros)<;>first|exact .dq|omega|skip
    refine aa.pure cP ?_
    simp only [go_sem, seval, List.length_map, hdi, hm, hlt]
    (with_reducible and_intros)<;>first|exact .dq|omega|skip
    refine aa.gen [] [] true (by simp) ?_
    simp only [go_sem, seval]
    refine bg.intro cW ?_
    simp only [go_sem, seval, hwi]
    (with_reducible and_intros)<;>first|exact .dq|omega|skip
    · intro r hr' d hd
      obtain ⟨y, _, rfl⟩ := List.mem_map.1 hr'
      simp only [au.cells, List.mem_cons, List.not_mem_nil, or_false] at hd
      rcases hd with rfl | rfl | rfl | rfl <;> trivial
    refine ah.step (Q, W) hi ⟨hI, ht2, by dsimp only; omega⟩ ?_
    simp only [go_sem, seval, hs1] <;> simp
  intro x hdx hI
  obtain ⟨ro, cs⟩ := x
  have hI := hI.1
  rw [List.drop_length] at hI
  have hI : (ro, cs) = R := hI
  subst hI
  simp only [go_sem, seval, List.length_map, hdx, List.take_length]
theorem GV (s:af) (n:Int) (hs:s.small) (hr:s.dz):Abs.Spec Tryz.prog 86 [] [.agg s.cells,.int .i64 n] [] (.bD [.agg (cE s n).cells,.sl 3 ((jk s n).map aN.cells),.int .i64 (dL s n)]):=by
 refine Spec.frozen (KS s n hs hr) [0,1] rfl ?_;intro r;rcases r with _ | _ | r<;>rfl
def Kp (s:af):Int:=min (s.now+3) 1099511627776
def nM (s:af) (w:Int):Nat->Nat->List au × List aN->(List au × List aN) × Int
 | 0,_,x=>(x,0)
 | m+1,c,x=>if UF s w c=0 then nM s w m (c+1) (Ae x.1 ⟨w,c,Rm s w c⟩ (Kp s),x.2++mO w c (Rm s w c)) else (x,UF s w c)
def ry (s:af):List Int->List au × List aN->(List au × List aN) × Int
 | [],x=>(x,0)
 | w :: r,x=>if (nM s w 3 0 x).2=0 then ry s r (nM s w 3 0 x).1 else nM s w 3 0 x
def Oa (s:af):(List au × List aN) × Int:=ry s (mN s.aj [1]) (s.calls,[])
def iC (s:af):Int:=if bA s then (if s.phase=1 then (Oa s).2 else 15) else 14
def jg (s:af):af:=if iC s=0 then { s with phase:=2,calls:=(Oa s).1.1 } else .zero
def m9 (s:af):List aN:=if iC s=0 then (Oa s).1.2 else []
theorem P4 (xs:List au) (d:aN) (a:Int):(Ae xs d a).length<=48:=by
 unfold Ae;split
 ·exact JI _ _ _
 ·simp
theorem x8 (s:af) (hs:s.small) (hr:s.dz) (hlb:s.bE.bs.length < 2 ^ 29) (hlp:s.ps.length < 2 ^ 29) :
  Abs.Spec Tryz.prog 84 [] [.agg s.cells] [.own 3 ((m9 s).map aN.cells)] (.bD [.agg (jg s).cells,.ref 0,.int .i64 (iC s)]):=by
 have c1:=gC s hs hr;have c2:=aP s hs;have c3:=uF s.aj [1] hs.aj (by simp);have hfit:s.fit:=⟨hs.aj.small,hs.book,hs.bE,hs.ps⟩
 have cS:=fun w c=>uE s w c hfit hr hlb hlp
 have cA:=fun xs d (h:xs.length < 2 ^ 30)=>JT xs d (Kp s) h
 have htl:=vA s.aj [1];have hml:=hs.aj.1;have hck:=fun h=>sH (s:=s) h
 obtain ⟨E,hE⟩:=aO (iC s);have hE0:=hE;simp only [iC] at hE;simp only [jg,m9,<- hE0];clear hE0;obtain ⟨R,hR⟩:=aO (Oa s);rw [<- hR] at hE |-;simp only [Oa] at hR;obtain ⟨ws,hws⟩:=aO (mN s.aj [1]);rw [<- hws] at c3 hR htl;clear hws;simp only [af.cells] at c1 c2 cS |-;rw [show ints [1]=[[.int .i64 1]] from rfl] at c3;simp only [aq.cells] at c3;simp only [aN.cells] at cA;refine aU 82 1 [.cell 2 42,.tmp 3,.tmp 4] mixed Tryz.func84 ?_;simp only [go_sem,seval];(with_reducible and_intros)<;>first|exact .dq|omega|skip
 refine aa.pure c1 ?_;cases b1:bA s
 ·rw [b1] at hE;rw [hE];simp only [go_sem,seval]<;>simp [af.zero,pl]
 have hck:=hck b1;have hA:Kp s=min (s.now+3) 1099511627776:=rfl;have hw:IntKind.wrap .i64 (s.now+3)=s.now+3:=bz (by omega) (by omega);rw [b1,if_pos rfl] at hE;simp only [go_sem,seval];(with_reducible and_intros)<;>first|exact .dq|omega|skip
 by_cases b2:s.phase=1
 case neg =>
  have d:(s.phase==1)=false:=by simpa using b2
  rw [if_neg b2] at hE;rw [hE];simp only [go_sem,seval,bne,d]<;>simp [af.zero,pl]
 rw [if_pos b2] at hE;obtain ⟨ph,hph⟩:=aO (s.phase);rw [<- hph] at b2 c1 c2 cS |-;have dph:(ph==1)=true:=by simpa using b2
 clear hph;simp only [go_sem,seval,bne,dph];(with_reducible and_intros)<;>first|exact .dq|omega|skip
 refine aa.pure c2 ?_;simp only [go_sem,seval];(with_reducible and_intros)<;>first|exact .dq|omega|skip
 refine aa.gen [432] [] false (by simp) ?_;simp only [go_sem,seval];refine bg.intro c3 ?_;clear c1 c2 c3;simp only [go_sem,seval];(with_reducible and_intros)<;>first|exact .dq|omega|skip
 refine aB.walk (S:=List au × List aN) ws.length [1,2,5,7] [32,48] (fun i _=>[(8,.int .i64 i),(6,.ref 1248)])
  (fun i x=>[(96,.box [.int .i64 s.now,.int .i64 s.day,.int .i64 ph,.sl 3 (s.aj.ms.map ak.cells),.sl 12 (s.aj.ns.map ay.cells),.sl 4 (s.aj.xs.map av.cells),.int .i64 s.book.next,.sl 7 (s.book.ts.map aL.cells),.sl 4 (s.book.qs.map aA.cells),
   .int .i64 s.bE.last,.sl 4 (s.bE.bs.map bJ.cells),.sl 3 (pl s.ps),.sl 4 (x.1.map au.cells),.sl 5 (s.aT.map bp.cells),.sl 7 (s.aM.map bu.cells)]),(1248,.own 3 (x.2.map aN.cells))])
  (fun i x=>ry s (ws.drop i) x=R/\x.1.length < 2 ^ 30/\x.2.length<=3*i) (s.calls,[]) ⟨hR.symm,hs.calls,Nat.le_refl _⟩ ?_ ?_ ?_
 ·simp only [go_sem,seval]<;>simp
 ·intro i x hi hdi hwi hI;obtain ⟨cs,ds⟩:=x;obtain ⟨hI,hcl,hdl⟩:=hI;dsimp only at hI hcl hdl |-;rw [dJ hi] at hI;simp only [ry] at hI;have hmw:=ints_at ws hi;have hli:(i:Int) < (ws.length:Int):=by omega
  have cSw:=cS ws[i];obtain ⟨w,hw1⟩:=aO (ws[i]);rw [<- hw1] at hI hmw cSw;obtain ⟨Q,hQ⟩:=aO (nM s w 3 0 (cs,ds));rw [<- hQ] at hI;clear cS hw1;simp only [go_sem,seval,az,hdi];(with_reducible and_intros)<;>first|exact .dq|omega|skip
  refine aB.walk (S:=List au × List aN) 3 [1,2,5,7,8] [32,48] (fun c _=>[(9,.int .i64 c),(6,.ref 1248)])
   (fun c x=>[(96,.box [.int .i64 s.now,.int .i64 s.day,.int .i64 ph,.sl 3 (s.aj.ms.map ak.cells),.sl 12 (s.aj.ns.map ay.cells),.sl 4 (s.aj.xs.map av.cells),.int .i64 s.book.next,.sl 7 (s.book.ts.map aL.cells),.sl 4 (s.book.qs.map aA.cells),
    .int .i64 s.bE.last,.sl 4 (s.bE.bs.map bJ.cells),.sl 3 (pl s.ps),.sl 4 (x.1.map au.cells),.sl 5 (s.aT.map bp.cells),.sl 7 (s.aM.map bu.cells)]),(1248,.own 3 (x.2.map aN.cells))])
   (fun c x=>nM s w (3-c) c x=Q/\x.1.length < 2 ^ 30/\x.2.length<=3*i+c) (cs,ds) ⟨hQ.symm,hcl,hdl⟩ ?_ ?_ ?_
  ·simp only [go_sem,seval]<;>simp
  ·intro c x hc hdc hwc hJ;obtain ⟨cs,ds⟩:=x;obtain ⟨hJ,hcl,hdl⟩:=hJ;dsimp only at hJ hcl hdl |-;have hdc:decide ((c:Int) < 3)=true:=hdc;obtain ⟨m,hm⟩:∃ m,3-c=m+1:=⟨3-c-1,by omega⟩
   have hm2:3-(c+1)=m:=by omega
   rw [hm] at hJ;simp only [nM] at hJ;have cSc:=cSw c;have cAc:=cA cs ⟨w,c,Rm s w c⟩ hcl;have hal:=P4 cs ⟨w,c,Rm s w c⟩ (Kp s);dsimp only at cAc;obtain ⟨n,hn⟩:=aO (Rm s w c);obtain ⟨e,he⟩:=aO (UF s w c);rw [<- hn] at cSc cAc hJ hal;rw [<- he] at cSc hJ;rw [hA] at cAc hJ hal;clear cA cSw hn he;simp only [go_sem,seval,hdc,az,hmw,hli];(with_reducible and_intros)<;>first|exact .dq|omega|skip
   refine aa.pure cSc ?_
   by_cases q1:e=0
   case neg =>
    have d:(e==0)=false:=by simpa using q1
    rw [if_neg q1] at hJ;rw [<- hJ] at hI;dsimp only at hI;rw [if_neg q1] at hI;rw [<- hI] at hE;rw [hE];simp only [if_neg q1];simp only [go_sem,seval,bne,d]
    all_goals simp [af.zero,pl]
   rw [if_pos q1] at hJ;rw [q1];simp only [go_sem,seval,az,hmw,hli,hw];(with_reducible and_intros)<;>first|exact .dq|omega|skip
   refine aa.pure cAc ?_;obtain ⟨A,hA1⟩:=aO (Ae cs ⟨w,c,n⟩ (min (s.now+3) 1099511627776));rw [<- hA1] at hJ hal |-
   by_cases q2:n=0
   ·have hJ:nM s w m (c+1) (A,ds)=Q:=by rw [<- hJ];simp [mO,q2]
    rw [q2];simp only [go_sem,seval,bne,hwc];(with_reducible and_intros)<;>first|exact .dq|omega|skip
    refine ah.step (A,ds) hc ⟨by rw [hm2];exact hJ,by dsimp only;omega,by dsimp only;omega⟩ ?_;simp only [go_sem,seval]<;>simp
   ·have d:(n==0)=false:=by simpa using q2
    have hJ:nM s w m (c+1) (A,ds++[⟨w,c,n⟩])=Q:=by rw [<- hJ];simp [mO,q2]
    simp only [go_sem,seval,bne,d,hwc,aI];(with_reducible and_intros)<;>first|exact .dq|omega|skip
    refine ah.step (A,ds++[⟨w,c,n⟩]) hc ⟨by rw [hm2];exact hJ,by dsimp only;omega,by simp;omega⟩ ?_;simp only [go_sem,seval]<;>simp
  intro x _ hJ;obtain ⟨cs,ds⟩:=x;obtain ⟨hJ,hcl,hdl⟩:=hJ;have hJ:((cs,ds),(0:Int))=Q:=hJ;rw [<- hJ] at hI;dsimp only at hI hcl hdl;rw [if_pos rfl] at hI;dsimp only
  try refine fm.id ?_
  simp only [go_sem,seval,hwi];(with_reducible and_intros)<;>first|exact .dq|omega|skip
  refine ah.step (cs,ds) hi ⟨hI,hcl,by dsimp only;omega⟩ ?_;simp only [go_sem,seval]<;>simp
 intro x hdx hI;obtain ⟨cs,ds⟩:=x;have hI:=hI.1;rw [List.drop_length] at hI;have hI:((cs,ds),(0:Int))=R:=hI;subst hI;rw [hE];dsimp only;simp only [go_sem,seval,az,hdx]
theorem wQ (s:af) (hs:s.small) (hr:s.dz) (hlb:s.bE.bs.length < 2 ^ 29) (hlp:s.ps.length < 2 ^ 29):Abs.Spec Tryz.prog 84 [] [.agg s.cells] [] (.bD [.agg (jg s).cells,.sl 3 ((m9 s).map aN.cells),.int .i64 (iC s)]):=by
 refine Spec.frozen (x8 s hs hr hlb hlp) [0] rfl ?_;intro r;rcases r with _ | r<;>rfl
structure aY where
 client:Int
 seq:Int
 kind:Int
 who:Int
 other:Int
 no:Int
 inst:Int
 cur:Int
 aX:Int
 aR:Int
 bX:Int
 s0:Int
 s1:Int
 s2:Int
 s3:Int
 s4:Int
 s5:Int
deriving DecidableEq
@[reducible] def aY.cells (x:aY):List D:=[.int .i64 x.client,.int .i64 x.seq,.int .i64 x.kind,.int .i64 x.who,.int .i64 x.other,.int .i64 x.no,.int .i64 x.inst,.int .i64 x.cur,.int .i64 x.aX,.int .i64 x.aR,.int .i64 x.bX,.int .i64 x.s0,.int .i64 x.s1,.int .i64 x.s2,.int .i64 x.s3,.int .i64 x.s4,.int .i64 x.s5]
theorem gf (a b c:Int):Abs.Spec Tryz.prog 77 [] [.int .i64 a,.int .i64 b,.int .i64 c] [] (.bool (within a b c)):=by
 refine aU 15 3 [.tmp 6] mixed Tryz.func77 ?_;simp only [go_sem,seval]
 repeat' with_reducible first|apply And.intro|exact .dq|refine aa.pure (by assumption) ?_|refine .aH (fun h=>?_) fun h=>?_|refine .aF (fun h=>?_) fun h=>?_|refine .aK (fun h=>?_) fun h=>?_|refine .split (fun h=>?_) fun h=>?_|refine .id ?_|refine ah.next (by omega) ?_ ?_|exact trivial|simp only [*,go_sem,seval]
 all_goals (simp only [within];simp<;>omega)
theorem gy (k w c:Int):Abs.Spec Tryz.prog 81 [] [.int .i64 k,.int .i64 w,.int .i64 c] [] (.agg [.int .i64 k,.int .i64 w,.int .i64 c]):=by
 refine aU 11 3 [.cell 6 120] mixed Tryz.func81 ?_;simp only [go_sem,seval]
theorem bC (e:Int):Abs.Spec Tryz.prog 78 [] [.int .i64 e] [] (.agg [.int .i64 e,.int .i64 0,.int .i64 0,.nil,.nil]):=by
 refine aU 5 1 [.cell 2 66] mixed Tryz.func78 ?_;simp only [go_sem,seval]
def C6 (r:aq) (w:Int):Int:=if eo r w then (if (eV r w).state=1 then 0 else 14) else 10
theorem pZ (s:af) (w:Int) (hl:s.aj.small):Abs.Spec Tryz.prog 161 [] [.agg s.cells,.int .i64 w] [] (.int .i64 (C6 s.aj w)):=by
 have h1:=bV s.aj w hl;simp only [af.cells] at h1 |-;simp only [aq.cells] at h1;unfold C6;obtain ⟨m,hm⟩:=aO (eV s.aj w);rw [<- hm] at h1 |-;refine aU 19 2 [.tmp 4] mixed Tryz.func161 ?_;simp only [go_sem,seval];(with_reducible and_intros)<;>first|exact .dq|omega|skip
 refine aa.pure h1 ?_;cases q:eo s.aj w
 ·simp only [go_sem,seval]<;>simp
 simp only [go_sem,seval,bne];(with_reducible and_intros)<;>first|exact .dq|omega|skip
 by_cases q2:m.state=1
 ·have d:(m.state==1)=true:=by simpa using q2
  simp only [go_sem,seval,d,if_pos q2]<;>simp
 ·have d:(m.state==1)=false:=by simpa using q2
  simp only [go_sem,seval,d,if_neg q2]<;>simp
def Oc (s:af) (w c:Int):Int:=if UF s w c=0 then (if decide (0 < Rm s w c)||decide (0<=cK w c s.calls) then 17 else 0) else UF s w c
theorem oB (s:af) (w c:Int) (hs:s.small) (hr:s.dz) (hlb:s.bE.bs.length < 2 ^ 29) (hlp:s.ps.length < 2 ^ 29):Abs.Spec Tryz.prog 163 [] [.agg s.cells,.int .i64 w,.int .i64 c] [] (.int .i64 (Oc s w c)):=by
 have hfit:s.fit:=⟨hs.aj.small,hs.book,hs.bE,hs.ps⟩
 have h1:=uE s w c hfit hr hlb hlp;have h2:=kq w c s.calls (by have:=hs.calls;omega);simp only [af.cells] at h1 |-;unfold Oc;obtain ⟨e,he⟩:=aO (UF s w c);obtain ⟨n,hn⟩:=aO (Rm s w c);rw [<- he,<- hn] at h1;rw [<- he,<- hn];refine aU 29 3 [.tmp 6] mixed Tryz.func163 ?_;simp only [go_sem,seval];(with_reducible and_intros)<;>first|exact .dq|omega|skip
 refine aa.pure h1 ?_
 by_cases q:e=0
 case neg =>
  have d:(e==0)=false:=by simpa using q
  simp only [go_sem,seval,bne,d,if_neg q]
 rw [q];simp only [go_sem,seval];(with_reducible and_intros)<;>first|exact .dq|omega|skip
 cases q2:decide (0 < n)
 ·simp only [go_sem,seval];(with_reducible and_intros)<;>first|exact .dq|omega|skip
  refine aa.pure h2 ?_;cases q3:decide (0<=cK w c s.calls)
  ·simp only [go_sem,seval,q3]<;>simp
  ·simp only [go_sem,seval,q3]<;>simp
 ·simp only [go_sem,seval]<;>simp
def gr (n:Int):List bu->Int->Int
 | [],_=>-1
 | x :: r,i=>if x.client==n then i else gr n r (i+1)
theorem tA (s:af) (n:Int) (hl:s.aM.length < 2 ^ 40):Abs.Spec Tryz.prog 28 [] [.agg s.cells,.int .i64 n] [] (.int .i64 (gr n s.aM 0)):=by
 simp only [af.cells];refine aU 22 2 [.tmp 4] mixed Tryz.func28 ?_;simp only [go_sem,seval,aI];refine aB.walk (S:=Unit) s.aM.length [1,2] [48] (fun i _=>[(5,.int .i64 i)]) (fun _ _=>[]) (fun i _=>gr n (s.aM.drop i) i=gr n s.aM 0) () rfl ?_ ?_ ?_
 ·simp only [go_sem,seval]
  try simp
 ·intro i _ hi hdi hwi hI;have hm:=aD (c:=bu.cells) s.aM hi;have hli:(i:Int) < (s.aM.length:Int):=by omega
  obtain ⟨x,hx⟩:=aO (s.aM[i]);rw [dJ hi,<- hx] at hI;rw [<- hx] at hm;simp only [gr] at hI;simp only [bu.cells] at hm;simp only [go_sem,seval,aI,hdi,hm];(with_reducible and_intros)<;>first|exact .dq|omega|skip
  cases q:x.client==n
  ·rw [q] at hI;simp only [go_sem,seval,hwi];refine ah.step () hi (by simpa using hI) ?_;simp only [go_sem,seval]
  ·rw [q,if_pos rfl] at hI;rw [<- hI];simp only [go_sem,seval]
 ·intro _ hdx hI;rw [List.drop_length] at hI;rw [<- hI];simp only [go_sem,seval,aI,hdx,gr]
def qD (s:ByteArray) (i:Nat):Int:=((s[i]?).map (fun x=>(x.toNat:Int))).getD 0
def Qz (s:ByteArray) (b:Int):Nat->Nat->Bool
 | 0,_=>false
 | m+1,i=>qD s i==b||Qz s b m (i+1)
def hasB (s:ByteArray) (b:Int):Bool:=Qz s b s.size 0
theorem Et (s:ByteArray) (b:Int) (hl:s.size < 2 ^ 60):Abs.Spec Tryz.prog 153 [] [.str s,.int .u8 b] [] (.bool (hasB s b)):=by
 refine aU 17 2 [.tmp 4] mixed Tryz.func153 ?_;simp only [go_sem,seval];refine aB.walk (S:=Unit) s.size [0,1] [] (fun i _=>[(5,.int .i64 i)]) (fun _ _=>[]) (fun i _=>Qz s b (s.size-i) i=hasB s b) () rfl ?_ ?_ ?_
 ·simp only [go_sem,seval]
  try simp
 ·intro i _ hi hdi hwi hI;obtain ⟨m,hm⟩:∃ m,s.size-i=m+1:=⟨s.size-i-1,by omega⟩
  have hm2:s.size-(i+1)=m:=by omega
  rw [hm] at hI;simp only [Qz] at hI;have hli:(i:Int) < (s.size:Int):=by omega
  have hb:((s[i]?).map (fun x=>(x.toNat:Int))).getD 0=qD s i:=rfl;simp only [go_sem,seval,hdi,Int.toNat_natCast,hb];(with_reducible and_intros)<;>first|exact .dq|omega|skip
  cases q:qD s i==b
  ·rw [q,Bool.false_or] at hI;simp only [go_sem,seval,hwi];refine ah.step () hi (by rw [hm2];exact hI) ?_;simp only [go_sem,seval]
  ·rw [q,Bool.true_or] at hI;rw [<- hI];simp only [go_sem,seval]
 ·intro _ hdx hI;rw [Nat.sub_self] at hI;rw [<- hI];simp only [go_sem,seval,hdx,Qz]
def LH:List ByteArray:=[⟨#[]⟩,⟨#[119,97]⟩,⟨#[105,99,113,97,115]⟩,⟨#[110,99,112,97]⟩,⟨#[119,99,97]⟩,⟨#[119,99,97]⟩,⟨#[119,110,113]⟩,⟨#[119,110,113]⟩,⟨#[119,99,97]⟩,⟨#[99,97]⟩,⟨#[119,111,105,113,112]⟩,⟨#[110]⟩,⟨#[110,113,112]⟩,⟨#[105,112]⟩,⟨#[]⟩,⟨#[]⟩,⟨#[]⟩,⟨#[97]⟩,⟨#[119,105,111,113,112]⟩,⟨#[119]⟩,⟨#[]⟩,⟨#[110,119,99]⟩,⟨#[119,105]⟩]
def ef (k:Int):ByteArray:=LH.getD k.toNat ⟨#[]⟩
theorem zQ (k:Int) (h:1<=k/\k<=22):Abs.Spec Tryz.prog 152 [] [.int .i64 k] [] (.str (ef k)):=by
 have hk:k=1\/k=2\/k=3\/k=4\/k=5\/k=6\/k=7\/k=8\/k=9\/k=10\/k=11\/k=12\/k=13\/k=14\/k=15\/k=16\/k=17\/k=18\/k=19\/k=20\/k=21\/k=22:=by omega
 clear h;rcases hk with rfl | rfl | rfl | rfl | rfl | rfl | rfl | rfl | rfl | rfl | rfl | rfl | rfl | rfl | rfl | rfl | rfl | rfl | rfl | rfl | rfl | rfl
 ·refine aU 17 1 [.tmp 2] mixed Tryz.func152 ?_;simp only [go_sem,seval];exact (rfl:(⟨#[119,97]⟩:ByteArray)=ef 1)
 ·refine aU 17 1 [.tmp 2] mixed Tryz.func152 ?_;simp only [go_sem,seval];exact (rfl:(⟨#[105,99,113,97,115]⟩:ByteArray)=ef 2)
 ·refine aU 17 1 [.tmp 2] mixed Tryz.func152 ?_;simp only [go_sem,seval];exact (rfl:(⟨#[110,99,112,97]⟩:ByteArray)=ef 3)
 ·refine aU 17 1 [.tmp 2] mixed Tryz.func152 ?_;simp only [go_sem,seval];exact (rfl:(⟨#[119,99,97]⟩:ByteArray)=ef 4)
 ·refine aU 17 1 [.tmp 2] mixed Tryz.func152 ?_;simp only [go_sem,seval];exact (rfl:(⟨#[119,99,97]⟩:ByteArray)=ef 5)
 ·refine aU 17 1 [.tmp 2] mixed Tryz.func152 ?_;simp only [go_sem,seval];exact (rfl:(⟨#[119,110,113]⟩:ByteArray)=ef 6)
 ·refine aU 17 1 [.tmp 2] mixed Tryz.func152 ?_;simp only [go_sem,seval];exact (rfl:(⟨#[119,110,113]⟩:ByteArray)=ef 7)
 ·refine aU 17 1 [.tmp 2] mixed Tryz.func152 ?_;simp only [go_sem,seval];exact (rfl:(⟨#[119,99,97]⟩:ByteArray)=ef 8)
 ·refine aU 17 1 [.tmp 2] mixed Tryz.func152 ?_;simp only [go_sem,seval];exact (rfl:(⟨#[99,97]⟩:ByteArray)=ef 9)
 ·refine aU 17 1 [.tmp 2] mixed Tryz.func152 ?_;simp only [go_sem,seval];exact (rfl:(⟨#[119,111,105,113,112]⟩:ByteArray)=ef 10)
 ·refine aU 17 1 [.tmp 2] mixed Tryz.func152 ?_;simp only [go_sem,seval];exact (rfl:(⟨#[110]⟩:ByteArray)=ef 11)
 ·refine aU 17 1 [.tmp 2] mixed Tryz.func152 ?_;simp only [go_sem,seval];exact (rfl:(⟨#[110,113,112]⟩:ByteArray)=ef 12)
 ·refine aU 17 1 [.tmp 2] mixed Tryz.func152 ?_;simp only [go_sem,seval];exact (rfl:(⟨#[105,112]⟩:ByteArray)=ef 13)
 ·refine aU 17 1 [.tmp 2] mixed Tryz.func152 ?_;simp only [go_sem,seval];exact (rfl:(⟨#[]⟩:ByteArray)=ef 14)
 ·refine aU 17 1 [.tmp 2] mixed Tryz.func152 ?_;simp only [go_sem,seval];exact (rfl:(⟨#[]⟩:ByteArray)=ef 15)
 ·refine aU 17 1 [.tmp 2] mixed Tryz.func152 ?_;simp only [go_sem,seval];exact (rfl:(⟨#[]⟩:ByteArray)=ef 16)
 ·refine aU 17 1 [.tmp 2] mixed Tryz.func152 ?_;simp only [go_sem,seval];exact (rfl:(⟨#[97]⟩:ByteArray)=ef 17)
 ·refine aU 17 1 [.tmp 2] mixed Tryz.func152 ?_;simp only [go_sem,seval];exact (rfl:(⟨#[119,105,111,113,112]⟩:ByteArray)=ef 18)
 ·refine aU 17 1 [.tmp 2] mixed Tryz.func152 ?_;simp only [go_sem,seval];exact (rfl:(⟨#[119]⟩:ByteArray)=ef 19)
 ·refine aU 17 1 [.tmp 2] mixed Tryz.func152 ?_;simp only [go_sem,seval];exact (rfl:(⟨#[]⟩:ByteArray)=ef 20)
 ·refine aU 17 1 [.tmp 2] mixed Tryz.func152 ?_;simp only [go_sem,seval];exact (rfl:(⟨#[110,119,99]⟩:ByteArray)=ef 21)
 ·refine aU 17 1 [.tmp 2] mixed Tryz.func152 ?_;simp only [go_sem,seval];exact (rfl:(⟨#[119,105]⟩:ByteArray)=ef 22)
def HM (c:aY) (b:Int):Int:=if b=119 then c.who else if b=111 then c.other else if b=110 then c.no else if b=105 then c.inst else if b=99 then c.cur else if b=113 then c.aX else if b=112 then c.aR else c.bX
theorem zG (c:aY) (b:Int):Abs.Spec Tryz.prog 154 [] [.agg c.cells,.int .u8 b] [] (.int .i64 (HM c b)):=by
 simp only [aY.cells];unfold HM;refine aU 36 2 [.tmp 4] mixed Tryz.func154 ?_;simp only [go_sem,seval];(with_reducible and_intros)<;>first|exact .dq|omega|skip
 by_cases q0:b=119
 ·have d:(b==119)=true:=by simpa using q0
  simp only [go_sem,seval,d,if_pos q0]
 have d0:(b==119)=false:=by simpa using q0
 simp only [go_sem,seval,d0]
 by_cases q1:b=111
 ·have d:(b==111)=true:=by simpa using q1
  simp only [go_sem,seval,d,if_pos q1,if_neg q0]
 have d1:(b==111)=false:=by simpa using q1
 simp only [go_sem,seval,d1]
 by_cases q2:b=110
 ·have d:(b==110)=true:=by simpa using q2
  simp only [go_sem,seval,d,if_pos q2,if_neg q0,if_neg q1]
 have d2:(b==110)=false:=by simpa using q2
 simp only [go_sem,seval,d2]
 by_cases q3:b=105
 ·have d:(b==105)=true:=by simpa using q3
  simp only [go_sem,seval,d,if_pos q3,if_neg q0,if_neg q1,if_neg q2]
 have d3:(b==105)=false:=by simpa using q3
 simp only [go_sem,seval,d3]
 by_cases q4:b=99
 ·have d:(b==99)=true:=by simpa using q4
  simp only [go_sem,seval,d,if_pos q4,if_neg q0,if_neg q1,if_neg q2,if_neg q3]
 have d4:(b==99)=false:=by simpa using q4
 simp only [go_sem,seval,d4]
 by_cases q5:b=113
 ·have d:(b==113)=true:=by simpa using q5
  simp only [go_sem,seval,d,if_pos q5,if_neg q0,if_neg q1,if_neg q2,if_neg q3,if_neg q4]
 have d5:(b==113)=false:=by simpa using q5
 simp only [go_sem,seval,d5]
 by_cases q6:b=112
 ·have d:(b==112)=true:=by simpa using q6
  simp only [go_sem,seval,d,if_pos q6,if_neg q0,if_neg q1,if_neg q2,if_neg q3,if_neg q4,if_neg q5]
 have d6:(b==112)=false:=by simpa using q6
 simp only [go_sem,seval,d6,if_neg q0,if_neg q1,if_neg q2,if_neg q3,if_neg q4,if_neg q5,if_neg q6]
def zw (c:aY) (l a:ByteArray):Nat->Nat->Int
 | 0,_=>0
 | m+1,i=>if !hasB l (qD a i)&&!(HM c (qD a i)==0) then 6 else zw c l a m (i+1)
def vB (c:aY):Nat->Int
 | 0=>c.s0
 | 1=>c.s1
 | 2=>c.s2
 | 3=>c.s3
 | 4=>c.s4
 | _=>c.s5
def KV (c:aY) (l:ByteArray):Nat->Nat->Int
 | 0,_=>0
 | m+1,i=>if !hasB l 115&&!(vB c i==0) then 6 else KV c l m (i+1)
def Tl:ByteArray:=⟨#[119,111,110,105,99,113,112,97]⟩
def w5 (c:aY):Int:=if within c.kind 1 22 then (if zw c (ef c.kind) Tl 8 0=0 then (if KV c (ef c.kind) 6 0=0 then (if within c.client 1 8 then 0 else 6) else 6) else 6) else 21
theorem KD (c:aY) (l a:ByteArray):∀ m i,zw c l a m i=0\/zw c l a m i=6
 | 0,_=>.inl rfl
 | m+1,i=>by simp only [zw];split;exact .inr rfl;exact KD c l a m (i+1)
theorem JC (k:Int):(ef k).size < 2 ^ 60:=by
 unfold ef;generalize k.toNat=n;rcases (by omega:n < 23\/23<=n) with h | h
 ·have:∀ n < 23,(LH.getD n ⟨#[]⟩).size < 8:=by decide
  exact Nat.lt_trans (this n h) (by decide)
 ·rw [List.getD_eq_getElem?_getD,List.getElem?_eq_none (by simpa [LH] using h)]
  decide
theorem B5 (c:aY):Abs.Spec Tryz.prog 70 [] [.agg c.cells] [] (.int .i64 (w5 c)):=by
 have c1:=gf c.kind 1 22;have c2:=fun h=>zQ c.kind h
 have c3:=gf c.client 1 8;have cH:=fun b=>Et (ef c.kind) b (JC c.kind)
 have cF:=fun b=>zG c b
 obtain ⟨E,hE⟩:=aO (w5 c);rw [<- hE];simp only [w5] at hE;obtain ⟨l,hl⟩:=aO (ef c.kind);rw [<- hl] at c2 cH hE;clear hl;simp only [aY.cells] at cF |-;refine aU 52 1 [.tmp 2] mixed Tryz.func70 ?_;simp only [go_sem,seval];(with_reducible and_intros)<;>first|exact .dq|omega|skip
 refine aa.pure c1 ?_;cases b1:within c.kind 1 22
 ·rw [b1] at hE;rw [hE];simp only [go_sem,seval]<;>simp
 have c2:=c2 (by simpa [within] using b1);rw [b1,if_pos rfl] at hE;simp only [go_sem,seval];(with_reducible and_intros)<;>first|exact .dq|omega|skip
 refine aa.pure c2 ?_;clear c1 c2 b1;simp only [go_sem,seval];(with_reducible and_intros)<;>first|exact .dq|omega|skip
 rw [show (⟨#[119,111,110,105,99,113,112,97]⟩:ByteArray)=Tl from rfl];have hA8:Tl.size=8:=rfl;obtain ⟨A,hA⟩:=aO (Tl);rw [<- hA] at hE hA8 |-;obtain ⟨F,hF⟩:=aO (zw c l A 8 0);rw [<- hF] at hE;have hF6:=KD c l A 8 0;rw [<- hF] at hF6;refine aB.walk (S:=Unit) A.size [1,3,4] [32,224] (fun i _=>[(5,.int .i64 i)]) (fun _ _=>[]) (fun i _=>zw c l A (A.size-i) i=F) () (by rw [hA8];exact hF.symm) ?_ ?_ ?_
 ·simp only [go_sem,seval]
  try simp
 ·intro i _ hi hdi hwi hI;obtain ⟨m,hm⟩:∃ m,A.size-i=m+1:=⟨A.size-i-1,by omega⟩
  have hm2:A.size-(i+1)=m:=by omega
  rw [hm] at hI;simp only [zw] at hI;have hli:(i:Int) < (A.size:Int):=by omega
  have hb:((A[i]?).map (fun x=>(x.toNat:Int))).getD 0=qD A i:=rfl;have cHi:=cH (qD A i);have cFi:=cF (qD A i);obtain ⟨b,hbb⟩:=aO (qD A i);rw [<- hbb] at hb hI cHi cFi;clear cH cF c3;simp only [go_sem,seval,hdi,Int.toNat_natCast,hb];(with_reducible and_intros)<;>first|exact .dq|omega|skip
  refine aa.pure cHi ?_;cases q:hasB l b
  ·rw [q,Bool.not_false,Bool.true_and] at hI;simp only [go_sem,seval,Int.toNat_natCast,hb];(with_reducible and_intros)<;>first|exact .dq|omega|skip
   refine aa.pure cFi ?_;cases q2:HM c b==0
   ·rw [q2,Bool.not_false,if_pos rfl] at hI;have:E=6:=by rw [hE,<- hI];rfl
    rw [this];simp only [go_sem,seval,bne,q2]
   ·rw [q2] at hI;simp only [go_sem,seval,bne,q2,hwi];refine ah.step () hi (by rw [hm2];simpa using hI) ?_;simp only [go_sem,seval]
  ·rw [q] at hI;simp only [go_sem,seval,hwi];refine ah.step () hi (by rw [hm2];simpa using hI) ?_;simp only [go_sem,seval]
 intro _ hdx hI;rw [Nat.sub_self] at hI;have hI:F=0:=hI.symm;rw [if_pos hI] at hE;clear hF hF6 cF hI;obtain ⟨G,hG⟩:=aO (KV c l 6 0);rw [<- hG] at hE;have cH:=cH 115;simp only [go_sem,seval,hdx];(with_reducible and_intros)<;>first|exact .dq|omega|skip
 refine aB.walk (S:=Unit) 6 [1,3] [32,224] (fun i _=>[(6,.int .i64 i)]) (fun _ _=>[]) (fun i _=>KV c l (6-i) i=G) () hG.symm ?_ ?_ ?_
 ·simp only [go_sem,seval]
  try simp
 ·intro i _ hi hdi hwi hI;have hdi:decide ((i:Int) < 6)=true:=hdi;obtain ⟨m,hm⟩:∃ m,6-i=m+1:=⟨6-i-1,by omega⟩
  have hm2:6-(i+1)=m:=by omega
  rw [hm] at hI;simp only [KV] at hI;simp only [go_sem,seval,hdi];(with_reducible and_intros)<;>first|exact .dq|omega|skip
  refine aa.pure cH ?_;cases q:hasB l 115
  case true =>
   rw [q] at hI;simp only [go_sem,seval,hwi];refine ah.step () hi (by rw [hm2];simpa using hI) ?_;simp only [go_sem,seval]
  rw [q,Bool.not_false,Bool.true_and] at hI;rcases (by omega:i=0\/i=1\/i=2\/i=3\/i=4\/i=5) with rfl | rfl | rfl | rfl | rfl | rfl
  ·simp only [vB] at hI;cases q2:c.s0==0
   ·rw [q2,Bool.not_false,if_pos rfl] at hI;have:E=6:=by rw [hE,<- hI];rfl
    rw [this];simp only [go_sem,seval,bne,q2]<;>simp
   ·rw [q2] at hI;simp only [go_sem,seval,bne,q2,hwi];refine ah.step () hi (by rw [hm2];simpa using hI) ?_;simp only [go_sem,seval];rfl
  ·simp only [vB] at hI;cases q2:c.s1==0
   ·rw [q2,Bool.not_false,if_pos rfl] at hI;have:E=6:=by rw [hE,<- hI];rfl
    rw [this];simp only [go_sem,seval,bne,q2]<;>simp
   ·rw [q2] at hI;simp only [go_sem,seval,bne,q2,hwi];refine ah.step () hi (by rw [hm2];simpa using hI) ?_;simp only [go_sem,seval];rfl
  ·simp only [vB] at hI;cases q2:c.s2==0
   ·rw [q2,Bool.not_false,if_pos rfl] at hI;have:E=6:=by rw [hE,<- hI];rfl
    rw [this];simp only [go_sem,seval,bne,q2]<;>simp
   ·rw [q2] at hI;simp only [go_sem,seval,bne,q2,hwi];refine ah.step () hi (by rw [hm2];simpa using hI) ?_;simp only [go_sem,seval];rfl
  ·simp only [vB] at hI;cases q2:c.s3==0
   ·rw [q2,Bool.not_false,if_pos rfl] at hI;have:E=6:=by rw [hE,<- hI];rfl
    rw [this];simp only [go_sem,seval,bne,q2]<;>simp
   ·rw [q2] at hI;simp only [go_sem,seval,bne,q2,hwi];refine ah.step () hi (by rw [hm2];simpa using hI) ?_;simp only [go_sem,seval];rfl
  ·simp only [vB] at hI;cases q2:c.s4==0
   ·rw [q2,Bool.not_false,if_pos rfl] at hI;have:E=6:=by rw [hE,<- hI];rfl
    rw [this];simp only [go_sem,seval,bne,q2]<;>simp
   ·rw [q2] at hI;simp only [go_sem,seval,bne,q2,hwi];refine ah.step () hi (by rw [hm2];simpa using hI) ?_;simp only [go_sem,seval];rfl
  ·simp only [vB] at hI;cases q2:c.s5==0
   ·rw [q2,Bool.not_false,if_pos rfl] at hI;have:E=6:=by rw [hE,<- hI];rfl
    rw [this];simp only [go_sem,seval,bne,q2]<;>simp
   ·rw [q2] at hI;simp only [go_sem,seval,bne,q2,hwi];refine ah.step () hi (by rw [hm2];simpa using hI) ?_;simp only [go_sem,seval];rfl
 intro _ hdx hI;have hI:G=0:=hI.symm;rw [if_pos hI] at hE;have hdx:decide (((6:Nat):Int) < 6)=false:=hdx;simp only [go_sem,seval];(with_reducible and_intros)<;>first|exact .dq|omega|skip
 refine aa.pure c3 ?_;cases b3:within c.client 1 8
 ·rw [b3] at hE;rw [hE];simp only [go_sem,seval]<;>simp
 ·rw [b3] at hE;rw [hE];simp only [go_sem,seval]<;>simp
def aW.err (e:Int):aW:=⟨e,0,0,[],[]⟩
def xP (c:aY) (last:Int):aW × Bool:=if c.seq=IntKind.wrap .i64 (last+1) then (if 1099511627776 < c.seq then (.err 1,true) else (.err 0,false)) else (.err 19,true)
def bu.zero:bu:=⟨0,0,.err 0⟩
def kK (s:af) (i:Int):bu:=s.aM.getD i.toNat .zero
def lD (s:af) (c:aY):aW × Bool:=
 if w5 c=0 then (if 0<=gr c.client s.aM 0 then (if c.seq=(kK s (gr c.client s.aM 0)).seq then ((kK s (gr c.client s.aM 0)).r,true) else if c.seq < (kK s (gr c.client s.aM 0)).seq then (.err 18,true) else xP c (kK s (gr c.client s.aM 0)).seq) else xP c 0) else (.err (w5 c),true)
theorem Kw (n:Int):∀ (l:List bu) (k:Int),0<=k->0<=gr n l k->∃ j:Nat,j < l.length/\gr n l k=k+j
 | [],k,_,h=>by simp [gr] at h
 | x :: r,k,hk,h=>by
  simp only [gr] at h |-;split
  ·exact ⟨0,by simp,by simp⟩
  ·rename_i hx;rw [if_neg hx] at h;obtain ⟨j,h1,h2⟩:=Kw n r (k+1) (by omega) h;exact ⟨j+1,by simp;omega,by rw [h2];omega⟩
theorem rM (s:af) (c:aY) (hs:s.small):Abs.Spec Tryz.prog 25 [] [.agg s.cells,.agg c.cells] [] (.bD [.agg (lD s c).1.cells,.bool (lD s c).2]):=by
 have c1:=B5 c;have c2:=tA s c.client (by have:=hs.aM;omega);have hlt:=Kw c.client s.aM 0 (by omega);obtain ⟨E,hE⟩:=aO (lD s c);rw [<- hE];simp only [lD] at hE;obtain ⟨fe,hfe⟩:=aO (w5 c);obtain ⟨i,hi⟩:=aO (gr c.client s.aM 0);rw [<- hfe] at c1 hE;rw [<- hi] at c2 hE hlt;clear hfe hi;simp only [aY.cells] at c1 |-;simp only [af.cells] at c2 |-;refine aU 54 2 [.cell 4 66,.tmp 5] mixed Tryz.func25 ?_;simp only [go_sem,seval];(with_reducible and_intros)<;>first|exact .dq|omega|skip
 refine aa.pure c1 ?_;clear c1
 by_cases b1:fe=0
 case neg =>
  have d:(fe==0)=false:=by simpa using b1
  rw [if_neg b1] at hE;rw [hE];simp only [go_sem,seval,bne,d]<;>simp [aW.err]
 rw [if_pos b1] at hE;rw [b1];simp only [go_sem,seval];(with_reducible and_intros)<;>first|exact .dq|omega|skip
 refine aa.pure c2 ?_;clear c2
 by_cases b2:0<=i
 case neg =>
  have d:decide (0<=i)=false:=by simpa using b2
  rw [if_neg b2] at hE;simp only [xP,show IntKind.wrap .i64 (0+1)=1 from rfl] at hE;have hw1:IntKind.wrap .i64 1=1:=rfl;simp only [go_sem,seval,d,hw1];(with_reducible and_intros)<;>first|exact .dq|omega|skip
  by_cases b3:c.seq=1
  ·rw [if_pos b3,b3] at hE;have hE:E=(.err 0,false):=hE;rw [hE,b3];simp only [go_sem,seval]<;>simp [aW.err]
  ·have d3:(c.seq==1)=false:=by simpa using b3
   rw [if_neg b3] at hE;rw [hE];simp only [go_sem,seval,bne,d3]<;>simp [aW.err]
 obtain ⟨j,hj,hij⟩:=hlt b2;have hij:i=(j:Int):=by omega
 subst hij;have d:decide ((0:Int)<=(j:Int))=true:=by simp
 have hat:kK s (j:Int)=s.aM[j]:=by simp [kK,hj]
 rw [if_pos b2,hat] at hE;have hm:=aD (c:=bu.cells) s.aM hj;have hfit:=hs.rs _ (List.getElem_mem hj);have hlj:(j:Int) < (s.aM.length:Int):=by omega
 obtain ⟨x,hx⟩:=aO (s.aM[j]);rw [<- hx] at hE hm hfit;have cT:=lE x.r hfit;simp only [bu.cells] at hm;simp only [aW.cells] at cT;simp only [go_sem,seval,d,aI,hm,Int.toNat_natCast];(with_reducible and_intros)<;>first|exact .dq|omega|skip
 by_cases b3:c.seq=x.seq
 ·have d3:(c.seq==x.seq)=true:=by simpa using b3
  rw [if_pos b3] at hE;rw [hE];simp only [go_sem,seval,d3,aI,hm,Int.toNat_natCast];(with_reducible and_intros)<;>first|exact .dq|omega|skip
  refine aa.pure cT ?_;simp only [go_sem,seval]<;>simp
 have d3:(c.seq==x.seq)=false:=by simpa using b3
 rw [if_neg b3] at hE;simp only [go_sem,seval,d3];(with_reducible and_intros)<;>first|exact .dq|omega|skip
 by_cases b4:c.seq < x.seq
 ·have d4:decide (c.seq < x.seq)=true:=by simpa using b4
  rw [if_pos b4] at hE;rw [hE];simp only [go_sem,seval,d4]<;>simp [aW.err]
 have d4:decide (c.seq < x.seq)=false:=by simpa using b4
 rw [if_neg b4] at hE;simp only [xP] at hE;obtain ⟨v,hv⟩:=aO (IntKind.wrap .i64 (x.seq+1));rw [<- hv] at hE;simp only [go_sem,seval,d4,<- hv];(with_reducible and_intros)<;>first|exact .dq|omega|skip
 by_cases b5:c.seq=v
 ·have d5:(c.seq==v)=true:=by simpa using b5
  rw [if_pos b5] at hE;simp only [go_sem,seval,bne,d5];(with_reducible and_intros)<;>first|exact .dq|omega|skip
  by_cases b6:1099511627776 < c.seq
  ·have d6:decide (1099511627776 < c.seq)=true:=by simpa using b6
   rw [if_pos b6] at hE;rw [hE];simp only [go_sem,seval,d6]<;>simp [aW.err]
  ·have d6:decide (1099511627776 < c.seq)=false:=by simpa using b6
   rw [if_neg b6] at hE;rw [hE];simp only [go_sem,seval,d6]<;>simp [aW.err]
 ·have d5:(c.seq==v)=false:=by simpa using b5
  rw [if_neg b5] at hE;rw [hE];simp only [go_sem,seval,bne,d5]<;>simp [aW.err]
def rV (s:af) (g:List aS):Int:=eO s.bE (nextId s.bE) g
def kf (s:af) (g:List aS):af:=if rV s g=0 then { s with bE:=gH s.bE (nextId s.bE) g } else s
theorem iS (s:af) (g:List aS) (hl:s.bE.bs.length < 2 ^ 30) (hr:∀ b∈s.bE.bs,b.dz) (hg:g.length < 2 ^ 29) :
  Abs.Spec Tryz.prog 79 [.box s.cells] [.addr 0 0,.sl 4 (g.map aS.cells)] [.box (kf s g).cells] (.int .i64 (rV s g)):=by
 have c1:=pH s.bE (nextId s.bE) g hl hr hg;obtain ⟨S,hS⟩:=aO (kf s g);rw [<- hS];simp only [kf] at hS;obtain ⟨e,he⟩:=aO (rV s g);rw [<- he] at hS |-;simp only [rV] at he;rw [<- he] at c1;clear he;simp only [bn.cells,nextId] at c1;simp only [nextId] at hS;simp only [af.cells];refine aU 29 2 [.tmp 4] mixed Tryz.func79 ?_;simp only [go_sem,seval];(with_reducible and_intros)<;>first|exact .dq|omega|skip
 refine aa.pure c1 ?_;simp only [go_sem,seval];(with_reducible and_intros)<;>first|exact .dq|omega|skip
 by_cases b1:e=0
 ·have d:(e==0)=true:=by simpa using b1
  rw [if_pos b1] at hS;rw [hS];simp only [go_sem,seval,d]
 ·have d:(e==0)=false:=by simpa using b1
  rw [if_neg b1] at hS;rw [hS];simp only [go_sem,seval,d]
structure af.good (s:af):Prop where
 small:s.small
 dz:s.dz
 ms:s.aj.ms.length < 2 ^ 27
 qs:s.book.qs.length < 2 ^ 20
 aT:s.aT.length < 2 ^ 20
 bs:s.bE.bs.length < 2 ^ 29
 ps:s.ps.length < 2 ^ 28
theorem af.good.bE {s:af} (h:s.good) {l:bn} (hl:l.fY):({ s with bE:=l }:af).good:=
 ⟨⟨h.small.aj,h.small.book,Nat.lt_trans hl.1 (by decide),h.small.ps,h.small.calls,h.small.aT,h.small.aM,h.small.rs⟩,
  ⟨h.dz.now,h.dz.day,h.dz.phase,h.dz.ms,h.dz.ns,h.dz.xs,h.dz.next,h.dz.ts,h.dz.qs,hl.2.2,hl.2.1,h.dz.ps,h.dz.calls,h.dz.aT,h.dz.aM⟩,h.ms,h.qs,h.aT,hl.1,h.ps⟩
theorem af.good.fY {s:af} (h:s.good):s.bE.fY:=⟨h.bs,h.dz.bs,h.dz.last⟩
theorem E2 {s:af} (h:s.good) (g:List aS):(kf s g).good:=by
 unfold kf;split
 ·exact h.bE Fm
 ·exact h
def Vl (s:af) (d:aN):af:={ s with calls:=rE s.calls d }
def nJ (s:af) (c:aY):af × Int:=
 if aJ.right ⟨2,c.who,c.cur⟩&&within c.bX 1 4611686018427387904 then
  (if C6 s.aj c.who=0 then
   (if c.kind=8 then (kf s (bP ⟨1,0,c.cur⟩ ⟨3,c.who,c.cur⟩ c.bX),rV s (bP ⟨1,0,c.cur⟩ ⟨3,c.who,c.cur⟩ c.bX))
   else if c.kind=4 then
    (if rV s (bP ⟨1,0,c.cur⟩ ⟨2,c.who,c.cur⟩ c.bX)=0 then (Vl (kf s (bP ⟨1,0,c.cur⟩ ⟨2,c.who,c.cur⟩ c.bX)) ⟨c.who,c.cur,c.bX⟩,qo s.calls ⟨c.who,c.cur,c.bX⟩)
    else (kf s (bP ⟨1,0,c.cur⟩ ⟨2,c.who,c.cur⟩ c.bX),rV s (bP ⟨1,0,c.cur⟩ ⟨2,c.who,c.cur⟩ c.bX)))
   else
    (kf s (bP ⟨2,c.who,c.cur⟩ ⟨1,0,c.cur⟩ c.bX),if rV s (bP ⟨2,c.who,c.cur⟩ ⟨1,0,c.cur⟩ c.bX)=0 then Oc (kf s (bP ⟨2,c.who,c.cur⟩ ⟨1,0,c.cur⟩ c.bX)) c.who c.cur else rV s (bP ⟨2,c.who,c.cur⟩ ⟨1,0,c.cur⟩ c.bX)))
  else (s,C6 s.aj c.who))
 else (s,3)
theorem pG (s:af) (c:aY) (h:s.good):Abs.Spec Tryz.prog 74 [.box s.cells] [.addr 0 0,.agg c.cells] [.box (nJ s c).1.cells] (.int .i64 (nJ s c).2):=by
 have c1:=gy 2 c.who c.cur;have c2:=gy 1 0 c.cur;have c3:=gy 3 c.who c.cur;have c4:=fL ⟨2,c.who,c.cur⟩;have c5:=gf c.bX 1 4611686018427387904;have c6:=pZ s c.who h.small.aj.small;have m8:=iu ⟨1,0,c.cur⟩ ⟨3,c.who,c.cur⟩ c.bX;have m4:=iu ⟨1,0,c.cur⟩ ⟨2,c.who,c.cur⟩ c.bX;have m5:=iu ⟨2,c.who,c.cur⟩ ⟨1,0,c.cur⟩ c.bX;have hgl:∀ a b n,(bP a b n).length < 2 ^ 29:=fun _ _ _=>by simp [bP]
 have p8:=iS s (bP ⟨1,0,c.cur⟩ ⟨3,c.who,c.cur⟩ c.bX) h.small.bE h.dz.bs (hgl _ _ _);have p4:=iS s (bP ⟨1,0,c.cur⟩ ⟨2,c.who,c.cur⟩ c.bX) h.small.bE h.dz.bs (hgl _ _ _);have p5:=iS s (bP ⟨2,c.who,c.cur⟩ ⟨1,0,c.cur⟩ c.bX) h.small.bE h.dz.bs (hgl _ _ _);have cM:=vT s.calls ⟨c.who,c.cur,c.bX⟩ h.small.calls;have g5:=E2 h (bP ⟨2,c.who,c.cur⟩ ⟨1,0,c.cur⟩ c.bX);have cC:=oB (kf s (bP ⟨2,c.who,c.cur⟩ ⟨1,0,c.cur⟩ c.bX)) c.who c.cur g5.small g5.dz g5.bs (by have:=g5.ps;omega);have hcal:(kf s (bP ⟨1,0,c.cur⟩ ⟨2,c.who,c.cur⟩ c.bX)).calls=s.calls:=by unfold kf;split<;>rfl
 clear g5 hgl;obtain ⟨R,hR⟩:=aO (nJ s c);rw [<- hR];simp only [nJ] at hR;obtain ⟨L8,h8⟩:∃ L,L=bP ⟨1,0,c.cur⟩ ⟨3,c.who,c.cur⟩ c.bX:=⟨_,rfl⟩
 obtain ⟨L4,h4⟩:∃ L,L=bP ⟨1,0,c.cur⟩ ⟨2,c.who,c.cur⟩ c.bX:=⟨_,rfl⟩
 obtain ⟨L5,h5⟩:∃ L,L=bP ⟨2,c.who,c.cur⟩ ⟨1,0,c.cur⟩ c.bX:=⟨_,rfl⟩
 rw [<- h8] at m8 p8 hR;rw [<- h4] at m4 p4 hR hcal;rw [<- h5] at m5 p5 cC hR;clear h8 h4 h5;obtain ⟨S8,s8⟩:∃ S,S=kf s L8:=⟨_,rfl⟩
 obtain ⟨S4,s4⟩:∃ S,S=kf s L4:=⟨_,rfl⟩
 obtain ⟨S5,s5⟩:∃ S,S=kf s L5:=⟨_,rfl⟩
 obtain ⟨E8,e8⟩:∃ E,E=rV s L8:=⟨_,rfl⟩
 obtain ⟨E4,e4⟩:∃ E,E=rV s L4:=⟨_,rfl⟩
 obtain ⟨E5,e5⟩:∃ E,E=rV s L5:=⟨_,rfl⟩
 rw [<- s8,<- e8] at p8;rw [<- s4,<- e4] at p4;rw [<- s5,<- e5] at p5;rw [<- s4] at hcal;rw [<- s5] at cC;rw [<- s8,<- s4,<- s5,<- e8,<- e4,<- e5] at hR;clear s8 s4 s5 e8 e4 e5;rw [<- hcal] at cM hR;simp only [Vl] at hR;obtain ⟨ML,hML⟩:∃ M,M=rE S4.calls ⟨c.who,c.cur,c.bX⟩:=⟨_,rfl⟩
 obtain ⟨me,hme⟩:∃ M,M=qo S4.calls ⟨c.who,c.cur,c.bX⟩:=⟨_,rfl⟩
 obtain ⟨ce,hce⟩:∃ M,M=Oc S5 c.who c.cur:=⟨_,rfl⟩
 obtain ⟨ae,hae⟩:∃ M,M=C6 s.aj c.who:=⟨_,rfl⟩
 rw [<- hML,<- hme] at cM;rw [<- hce] at cC;rw [<- hae] at c6;rw [<- hML,<- hme,<- hce,<- hae] at hR;clear hML hme hce hae hcal;simp only [aJ.cells] at c4 m8 m4 m5;simp only [aN.cells] at cM;simp only [af.cells] at c6 p8 p4 p5 cC |-;simp only [aY.cells];refine aU 97 2 [.tmp 4] mixed Tryz.func74 ?_;simp only [go_sem,seval];(with_reducible and_intros)<;>first|exact .dq|omega|skip
 refine aa.pure c1 ?_;simp only [go_sem,seval];(with_reducible and_intros)<;>first|exact .dq|omega|skip
 refine aa.pure c2 ?_;simp only [go_sem,seval];(with_reducible and_intros)<;>first|exact .dq|omega|skip
 refine aa.pure c4 ?_;cases b1:aJ.right ⟨2,c.who,c.cur⟩
 ·rw [b1] at hR;have hR:R=(s,3):=hR;rw [hR];simp only [go_sem,seval]<;>simp
 rw [b1,Bool.true_and] at hR;simp only [go_sem,seval];(with_reducible and_intros)<;>first|exact .dq|omega|skip
 refine aa.pure c5 ?_;cases b2:within c.bX 1 4611686018427387904
 ·rw [b2] at hR;have hR:R=(s,3):=hR;rw [hR];simp only [go_sem,seval]<;>simp
 rw [b2,if_pos rfl] at hR;simp only [go_sem,seval];(with_reducible and_intros)<;>first|exact .dq|omega|skip
 refine aa.pure c6 ?_
 by_cases b3:ae=0
 case neg =>
  have d:(ae==0)=false:=by simpa using b3
  rw [if_neg b3] at hR;rw [hR];simp only [go_sem,seval,bne,d]<;>simp
 rw [if_pos b3] at hR;rw [b3];clear c1 c2 c4 c5 c6 b1 b2 b3;simp only [go_sem,seval];(with_reducible and_intros)<;>first|exact .dq|omega|skip
 by_cases k8:c.kind=8
 ·have d:(c.kind==8)=true:=by simpa using k8
  rw [if_pos k8] at hR;rw [hR];simp only [go_sem,seval,d];(with_reducible and_intros)<;>first|exact .dq|omega|skip
  refine aa.pure c3 ?_;simp only [go_sem,seval];(with_reducible and_intros)<;>first|exact .dq|omega|skip
  refine aa.pure m8 ?_;simp only [go_sem,seval];(with_reducible and_intros)<;>first|exact .dq|omega|skip
  refine aa.gen [] [0] false (by simp) ?_;simp only [go_sem,seval];refine bg.intro p8 ?_;simp only [go_sem,seval]
 have d8:(c.kind==8)=false:=by simpa using k8
 rw [if_neg k8] at hR;simp only [go_sem,seval,d8];(with_reducible and_intros)<;>first|exact .dq|omega|skip
 by_cases k4:c.kind=4
 ·have d:(c.kind==4)=true:=by simpa using k4
  rw [if_pos k4] at hR;simp only [go_sem,seval,d];(with_reducible and_intros)<;>first|exact .dq|omega|skip
  refine aa.pure m4 ?_;simp only [go_sem,seval];(with_reducible and_intros)<;>first|exact .dq|omega|skip
  refine aa.gen [] [0] false (by simp) ?_;simp only [go_sem,seval];refine bg.intro p4 ?_;simp only [go_sem,seval];(with_reducible and_intros)<;>first|exact .dq|omega|skip
  by_cases q:E4=0
  ·have d:(E4==0)=true:=by simpa using q
   rw [if_pos q] at hR;rw [hR];simp only [go_sem,seval,d];(with_reducible and_intros)<;>first|exact .dq|omega|skip
   refine aa.pure cM ?_;simp only [go_sem,seval];(with_reducible and_intros)<;>first|exact .dq|omega|skip
  ·have d:(E4==0)=false:=by simpa using q
   rw [if_neg q] at hR;rw [hR];simp only [go_sem,seval,d]
 have d4:(c.kind==4)=false:=by simpa using k4
 rw [if_neg k4] at hR;simp only [go_sem,seval,d4];(with_reducible and_intros)<;>first|exact .dq|omega|skip
 refine aa.pure m5 ?_;simp only [go_sem,seval];(with_reducible and_intros)<;>first|exact .dq|omega|skip
 refine aa.gen [] [0] false (by simp) ?_;simp only [go_sem,seval];refine bg.intro p5 ?_;simp only [go_sem,seval];(with_reducible and_intros)<;>first|exact .dq|omega|skip
 by_cases q:E5=0
 ·have d:(E5==0)=true:=by simpa using q
  rw [if_pos q] at hR;rw [hR];simp only [go_sem,seval,d];(with_reducible and_intros)<;>first|exact .dq|omega|skip
  refine aa.pure cC ?_;simp only [go_sem,seval]
 ·have d:(E5==0)=false:=by simpa using q
  rw [if_neg q] at hR;rw [hR];simp only [go_sem,seval,d]
theorem yw (ps:List eW) (w a u:Int) (hl:ps.length < 2 ^ 29):Abs.Spec Tryz.prog 164 [] [.sl 3 (pl ps),.int .i64 w,.int .i64 a,.int .i64 u] [] (.bD [.sl 3 (pl (cQ ps w a u)),.int .i64 (dS ps w a u)]):=by
 refine Spec.frozen (BH ps w a u hl) [0] rfl ?_;intro r;rcases r with _ | r<;>rfl
def Mh (r:aq) (n:Int):Bool:=decide (0<=iG av.a n r.xs)
def nI (r:aq) (n:Int):av:=fP av.a n ⟨0,0,0,0⟩ r.xs
def n9 (c:aY):Int:=if c.kind=7 then -c.aX else c.aX
def jU (s:af) (c:aY) (n:Int):af × Int:=
 if within c.aX 1 1099511627776 then
  (if eo s.aj c.who&&Mh s.aj c.no then
   (if (eV s.aj c.who).state=1 then
    (if dS s.ps c.who c.no n=0 then
     (if n < 0 then ({ s with ps:=cQ s.ps c.who c.no n },Oc { s with ps:=cQ s.ps c.who c.no n } c.who (nI s.aj c.no).b)
     else if (nI s.aj c.no).E n=0 then ({ s with ps:=cQ s.ps c.who c.no n,calls:=rE s.calls ⟨c.who,(nI s.aj c.no).b,(nI s.aj c.no).V n⟩ },qo s.calls ⟨c.who,(nI s.aj c.no).b,(nI s.aj c.no).V n⟩)
     else ({ s with ps:=cQ s.ps c.who c.no n },(nI s.aj c.no).E n))
    else (s,dS s.ps c.who c.no n))
   else (s,14))
  else (s,10))
 else (s,3)
theorem xe {ps:List eW} {w a u:Int} (h:dS ps w a u=0):Good (cQ ps w a u):=by
 obtain ⟨h1,h2,h3,h4,h5,h6⟩:=OK h;unfold cQ;rw [if_pos h];exact IM h2 h6 h1
theorem RP {p:eW} (h:p.ok):p.dz:=by
 obtain ⟨h1,h2,h3⟩:=h;have:=lR.1 h1;exact ⟨⟨by omega,by omega⟩,⟨by omega,by omega⟩,⟨by omega,by omega⟩⟩
theorem pY (s:af) (c:aY) (h:s.good):Abs.Spec Tryz.prog 75 [.box s.cells] [.addr 0 0,.agg c.cells] [.box (jU s c (n9 c)).1.cells] (.int .i64 (jU s c (n9 c)).2):=by
 have c1:=gf c.aX 1 1099511627776;have c2:=bV s.aj c.who h.small.aj.small;have c3:=kJ s.aj c.no h.small.aj.small;have e3:fP av.a c.no ⟨0,0,0,0⟩ s.aj.xs=nI s.aj c.no:=rfl;have e4:decide (0<=iG av.a c.no s.aj.xs)=Mh s.aj c.no:=rfl;rw [e3,e4] at c3;have c5:=fun n=>yw s.ps c.who c.no n (by have:=h.ps;omega)
 have cM:=fun d=>vT s.calls d h.small.calls
 have cV:=fun n=>uL (nI s.aj c.no) n
 have cC:∀ n,dS s.ps c.who c.no n=0->_:=fun n hn=>oB { s with ps:=cQ s.ps c.who c.no n } c.who (nI s.aj c.no).b
  ⟨h.small.aj,h.small.book,h.small.bE,by have:=Hh c.who c.no (bU c.who c.no s.ps+n) s.ps;have:=h.ps;simp only [cQ,if_pos hn];omega,h.small.calls,h.small.aT,h.small.aM,h.small.rs⟩
  ⟨h.dz.now,h.dz.day,h.dz.phase,h.dz.ms,h.dz.ns,h.dz.xs,h.dz.next,h.dz.ts,h.dz.qs,h.dz.last,h.dz.bs,fun p hp=>RP ((xe hn).1 p hp),h.dz.calls,h.dz.aT,h.dz.aM⟩
  h.bs (by have:=Hh c.who c.no (bU c.who c.no s.ps+n) s.ps;have:=h.ps;simp only [cQ,if_pos hn];omega)
 obtain ⟨n,hn⟩:=aO (n9 c);rw [<- hn];have c5:=c5 n;have cV:=cV n;have cC:=cC n;obtain ⟨R,hR⟩:=aO (jU s c n);rw [<- hR];simp only [jU] at hR;obtain ⟨m,hm⟩:=aO (eV s.aj c.who);obtain ⟨a,ha⟩:=aO (nI s.aj c.no);obtain ⟨mi,hmi⟩:∃ m,m=eo s.aj c.who:=⟨_,rfl⟩
 obtain ⟨ai,hai⟩:∃ m,m=Mh s.aj c.no:=⟨_,rfl⟩
 rw [<- hm,<- hmi] at c2;rw [<- ha,<- hai] at c3;rw [<- ha] at cV;simp only [<- ha] at cC;rw [<- hm,<- hmi,<- ha,<- hai] at hR;obtain ⟨qs,hqs⟩:∃ l,l=cQ s.ps c.who c.no n:=⟨_,rfl⟩
 obtain ⟨qe,hqe⟩:∃ l,l=dS s.ps c.who c.no n:=⟨_,rfl⟩
 rw [<- hqs,<- hqe] at c5 hR;rw [<- hqs,<- hqe] at cC;obtain ⟨ce,hce⟩:∃ e,e=Oc { s with ps:=qs } c.who a.b:=⟨_,rfl⟩
 rw [<- hce] at cC hR;clear hm ha hmi hai hqs hqe hce e3 e4;have cM:=cM ⟨c.who,a.b,a.V n⟩;simp only [aq.cells] at c2 c3;simp only [av.cells] at c3 cV;simp only [aN.cells] at cM;obtain ⟨V,hV⟩:=aO (a.V n);obtain ⟨ve,hve⟩:∃ V,V=a.E n:=⟨_,rfl⟩
 rw [<- hV] at cM;rw [<- hV,<- hve] at cV hR;obtain ⟨ML,hML⟩:∃ M,M=rE s.calls ⟨c.who,a.b,V⟩:=⟨_,rfl⟩
 obtain ⟨me,hme⟩:∃ M,M=qo s.calls ⟨c.who,a.b,V⟩:=⟨_,rfl⟩
 rw [<- hML,<- hme] at cM hR;clear hV hve hML hme;simp only [af.cells] at cC |-;simp only [aY.cells];refine aU 109 2 [.tmp 4] mixed Tryz.func75 ?_;simp only [go_sem,seval];(with_reducible and_intros)<;>first|exact .dq|omega|skip
 refine aa.pure c1 ?_;cases b1:within c.aX 1 1099511627776
 ·rw [b1] at hR;have hR:R=(s,3):=hR;rw [hR];simp only [go_sem,seval]<;>simp
 rw [b1,if_pos rfl] at hR;simp only [within,cg,decide_eq_true_eq] at b1;simp only [go_sem,seval];(with_reducible and_intros)<;>first|exact .dq|omega|skip
 refine aa.pure c2 ?_;simp only [go_sem,seval];(with_reducible and_intros)<;>first|exact .dq|omega|skip
 refine aa.pure c3 ?_;clear c1 c2 c3;cases b2:mi
 ·rw [b2] at hR;have hR:R=(s,10):=hR;rw [hR];simp only [go_sem,seval];(with_reducible and_intros)<;>first|exact .dq|omega|skip
 rw [b2,Bool.true_and] at hR;cases b3:ai
 ·rw [b3] at hR;have hR:R=(s,10):=hR;rw [hR];simp only [go_sem,seval];(with_reducible and_intros)<;>first|exact .dq|omega|skip
 rw [b3,if_pos rfl] at hR;simp only [go_sem,seval];(with_reducible and_intros)<;>first|exact .dq|omega|skip
 by_cases b4:m.state=1
 case neg =>
  have d:(m.state==1)=false:=by simpa using b4
  rw [if_neg b4] at hR;rw [hR];simp only [go_sem,seval,bne,d]<;>simp
 have d4:(m.state==1)=true:=by simpa using b4
 rw [if_pos b4] at hR;have hw:IntKind.wrap .i64 (0-c.aX) = -c.aX:=by rw [bz (by omega) (by omega)];omega
 simp only [go_sem,seval,bne,d4];(with_reducible and_intros)<;>first|exact .dq|omega|skip
 by_cases k7:c.kind=7
 ·have dk:(c.kind==7)=true:=by simpa using k7
  have hn:-c.aX=n:=by rw [hn];simp [n9,k7]
  simp only [go_sem,seval,dk,hw,hn];(with_reducible and_intros)<;>first|exact .dq|omega|skip
  refine aa.pure c5 ?_
  by_cases q:qe=0
  case neg =>
   have d:(qe==0)=false:=by simpa using q
   rw [if_neg q] at hR;rw [hR];simp only [go_sem,seval,bne,d]<;>simp
  rw [if_pos q] at hR;have cC:=cC q;rw [q];simp only [go_sem,seval];(with_reducible and_intros)<;>first|exact .dq|omega|skip
  have q2:n < 0:=by omega
  have d2:decide (n < 0)=true:=by simpa using q2
  rw [if_pos q2] at hR;rw [hR];simp only [go_sem,seval,d2];(with_reducible and_intros)<;>first|exact .dq|omega|skip
  refine aa.pure cC ?_;simp only [go_sem,seval]
 ·have dk:(c.kind==7)=false:=by simpa using k7
  have hn:c.aX=n:=by rw [hn];simp [n9,k7]
  simp only [go_sem,seval,dk,hw,hn];(with_reducible and_intros)<;>first|exact .dq|omega|skip
  refine aa.pure c5 ?_
  by_cases q:qe=0
  case neg =>
   have d:(qe==0)=false:=by simpa using q
   rw [if_neg q] at hR;rw [hR];simp only [go_sem,seval,bne,d]<;>simp
  rw [if_pos q] at hR;have cC:=cC q;rw [q];simp only [go_sem,seval];(with_reducible and_intros)<;>first|exact .dq|omega|skip
  have q2:¬ n < 0:=by omega
  have d2:decide (n < 0)=false:=by simpa using q2
  rw [if_neg q2] at hR;simp only [go_sem,seval,d2];(with_reducible and_intros)<;>first|exact .dq|omega|skip
  refine aa.pure cV ?_
  by_cases q3:ve=0
  case neg =>
   have d:(ve==0)=false:=by simpa using q3
   rw [if_neg q3] at hR;rw [hR];simp only [go_sem,seval,d]<;>simp
  rw [if_pos q3] at hR;rw [hR,q3];simp only [go_sem,seval];(with_reducible and_intros)<;>first|exact .dq|omega|skip
  refine aa.pure cM ?_;simp only [go_sem,seval];(with_reducible and_intros)<;>first|exact .dq|omega|skip
def jz (c:aY):aL:=⟨0,c.who,c.other,c.inst,c.aX,c.aR,false⟩
def iT (s:af) (c:aY):af × Int × Int:=
 if c.kind=10 then
  (if vN s.aj (jz c)=0 then ({ s with book:=gS s.book (jz c) },pN s.book (jz c),fM s.book (jz c)) else (s,0,vN s.aj (jz c)))
 else if c.kind=13 then ({ s with aj:=uM s.aj c.inst c.aR },0,uV s.aj c.inst c.aR)
 else if gq c.no s.book.ts < 0 then (s,0,10)
 else if C6 s.aj (cr c.no s.book.ts).fZ=0/\C6 s.aj (cr c.no s.book.ts).dY=0 then
  (if c.kind=11 then ({ s with book:=dI s.book c.no },0,eG s.book c.no)
  else ({ s with book:=om s.book c.no c.aX c.aR },C8 s.book c.no c.aX c.aR,qj s.book c.no c.aX c.aR))
 else (s,0,14)
theorem je (s:af) (c:aY) (h:s.good):Abs.Spec Tryz.prog 82 [.box s.cells] [.addr 0 0,.agg c.cells] [.box (iT s c).1.cells] (.bD [.int .i64 (iT s c).2.1,.int .i64 (iT s c).2.2]):=by
 have c1:=DX s.aj (jz c) h.small.aj;have c2:=uQ s.book (jz c) h.small.book h.dz.qs;have c3:=Ht s.aj c.inst c.aR h.small.aj;have c4:=qK s.book c.no h.small.book;have c5:=fun w=>pZ s w h.small.aj.small
 have c6:=sX s.book c.no h.small.book h.dz.qs;have c7:=Ag s.book c.no c.aX c.aR h.small.book h.dz.qs;have hfe:¬ gq c.no s.book.ts < 0->_:=fun hh=>tD (n:=c.no) (ts:=s.book.ts) hh
 obtain ⟨R,hR⟩:=aO (iT s c);rw [<- hR];simp only [iT] at hR;obtain ⟨te,hte⟩:∃ e,e=vN s.aj (jz c):=⟨_,rfl⟩
 obtain ⟨eB,hB⟩:∃ e,e=gS s.book (jz c):=⟨_,rfl⟩
 obtain ⟨eN,hN⟩:∃ e,e=pN s.book (jz c):=⟨_,rfl⟩
 obtain ⟨eE,hE⟩:∃ e,e=fM s.book (jz c):=⟨_,rfl⟩
 rw [<- hte] at c1 hR;rw [<- hB,<- hN,<- hE] at c2 hR;simp only [jz,aL.cells] at c1 c2;simp only [aq.cells] at c1 c3;simp only [aG.cells] at c2 c4 c6 c7;simp only [af.cells] at c5 |-;simp only [aY.cells];refine aU 142 2 [.tmp 4,.tmp 5] mixed Tryz.func82 ?_;simp only [go_sem,seval];(with_reducible and_intros)<;>first|exact .dq|omega|skip
 by_cases k10:c.kind=10
 ·have dk:(c.kind==10)=true:=by simpa using k10
  rw [if_pos k10] at hR;simp only [go_sem,seval,dk];(with_reducible and_intros)<;>first|exact .dq|omega|skip
  refine aa.pure c1 ?_
  by_cases q:te=0
  ·have d:(te==0)=true:=by simpa using q
   rw [if_pos q] at hR;rw [hR];simp only [go_sem,seval,d];(with_reducible and_intros)<;>first|exact .dq|omega|skip
   refine aa.pure c2 ?_;simp only [go_sem,seval];(with_reducible and_intros)<;>first|exact .dq|omega|skip
  ·have d:(te==0)=false:=by simpa using q
   rw [if_neg q] at hR;rw [hR];simp only [go_sem,seval,d]
 have dk:(c.kind==10)=false:=by simpa using k10
 rw [if_neg k10] at hR;clear c1 c2;simp only [go_sem,seval,dk];(with_reducible and_intros)<;>first|exact .dq|omega|skip
 by_cases k13:c.kind=13
 ·have dk3:(c.kind==13)=true:=by simpa using k13
  rw [if_pos k13] at hR;rw [hR];simp only [go_sem,seval,dk3];(with_reducible and_intros)<;>first|exact .dq|omega|skip
  refine aa.pure c3 ?_;simp only [go_sem,seval];(with_reducible and_intros)<;>first|exact .dq|omega|skip
 have dk3:(c.kind==13)=false:=by simpa using k13
 rw [if_neg k13] at hR;clear c3;simp only [go_sem,seval,dk3];(with_reducible and_intros)<;>first|exact .dq|omega|skip
 refine aa.pure c4 ?_
 by_cases q:gq c.no s.book.ts < 0
 ·have d:decide (gq c.no s.book.ts < 0)=true:=by simpa using q
  rw [if_pos q] at hR;rw [hR];simp only [go_sem,seval,d]
 have d:decide (gq c.no s.book.ts < 0)=false:=by simpa using q
 rw [if_neg q] at hR;obtain ⟨i,hi,hie,_⟩:=hfe q;have hat:cr c.no s.book.ts=s.book.ts[i]:=by simp [cr,hie,hi]
 rw [hat] at hR;have hm:=aD (c:=aL.cells) s.book.ts hi;have hli:(i:Int) < (s.book.ts.length:Int):=by omega
 obtain ⟨x,hx⟩:=aO (s.book.ts[i]);rw [<- hx] at hR hm;have c5b:=c5 x.fZ;have c5s:=c5 x.dY;obtain ⟨be,hbe⟩:∃ e,e=C6 s.aj x.fZ:=⟨_,rfl⟩
 obtain ⟨se,hse⟩:∃ e,e=C6 s.aj x.dY:=⟨_,rfl⟩
 rw [<- hbe] at c5b hR;rw [<- hse] at c5s hR;rw [hie] at d |-;simp only [aL.cells] at hm;clear hfe c4 q c5 hbe hse hat hx;simp only [go_sem,seval,d,aI,hm,Int.toNat_natCast];(with_reducible and_intros)<;>first|exact .dq|omega|skip
 refine aa.pure c5b ?_
 by_cases q1:be=0
 case neg =>
  have d1:(be==0)=false:=by simpa using q1
  rw [if_neg (fun h=>q1 h.1)] at hR;rw [hR];simp only [go_sem,seval,bne,d1]<;>simp
 rw [q1];simp only [go_sem,seval,aI,hm,Int.toNat_natCast];(with_reducible and_intros)<;>first|exact .dq|omega|skip
 refine aa.pure c5s ?_
 by_cases q2:se=0
 case neg =>
  have d2:(se==0)=false:=by simpa using q2
  rw [if_neg (fun h=>q2 h.2)] at hR;rw [hR];simp only [go_sem,seval,bne,d2]<;>simp
 rw [if_pos ⟨q1,q2⟩] at hR;rw [q2];clear c5b c5s;simp only [go_sem,seval];(with_reducible and_intros)<;>first|exact .dq|omega|skip
 by_cases k11:c.kind=11
 ·have dk1:(c.kind==11)=true:=by simpa using k11
  rw [if_pos k11] at hR;rw [hR];simp only [go_sem,seval,dk1];(with_reducible and_intros)<;>first|exact .dq|omega|skip
  refine aa.pure c6 ?_;simp only [go_sem,seval];(with_reducible and_intros)<;>first|exact .dq|omega|skip
 ·have dk1:(c.kind==11)=false:=by simpa using k11
  rw [if_neg k11] at hR;rw [hR];simp only [go_sem,seval,dk1];(with_reducible and_intros)<;>first|exact .dq|omega|skip
  refine aa.pure c7 ?_;simp only [go_sem,seval];(with_reducible and_intros)<;>first|exact .dq|omega|skip
def uo (s:af) (c:Int):af × Int:=if jc s.bE s.aj c=0/\fq s.bE s.aj c≠[] then (kf s (fq s.bE s.aj c),rV s (fq s.bE s.aj c)) else (s,jc s.bE s.aj c)
def j0:Nat->Nat->af->List aN->af × List aN × Int
 | 0,_,s,ds=>(s,ds,0)
 | m+1,c,s,ds=>if (uo s c).2=0 then j0 m (c+1) (uo s c).1 (ds++iz s.bE s.aj c) else ((uo s c).1,[],(uo s c).2)
theorem NM {s:af} (h:s.good) (c:Int):(uo s c).1.good:=by
 unfold uo;split
 ·exact E2 h _
 ·exact h
theorem zA (l:bn) (r:aq) (c:Int):(iz l r c).length<=r.ms.length:=by
 unfold iz;split
 ·have:=dZ (f:=sB l c) (m:=1) (fun m=>by unfold sB;split<;>simp) r.ms;simpa using this
 ·simp
theorem KK (l:bn) (r:aq) (c:Int):(fq l r c).length<=306:=by
 unfold fq;split
 ·exact tR _
 ·simp
theorem zU (s:af) (h:s.good):Abs.Spec Tryz.prog 89 [.box s.cells] [.addr 0 0] [.box (j0 3 0 s []).1.cells,.own 3 ((j0 3 0 s []).2.1.map aN.cells)] (.bD [.ref 1,.int .i64 (j0 3 0 s []).2.2]):=by
 obtain ⟨R,hR⟩:=aO (j0 3 0 s []);rw [<- hR];simp only [af.cells];refine aU 44 1 [.tmp 2,.tmp 3] mixed Tryz.func89 ?_;simp only [go_sem,seval];(with_reducible and_intros)<;>first|exact .dq|omega|skip
 refine aB.walk (S:=af × List aN) 3 [0] [] (fun i _=>[(5,.int .i64 i),(4,.ref 688)]) (fun i x=>[(0,.box x.1.cells),(688,.own 3 (x.2.map aN.cells))])
  (fun i x=>j0 (3-i) i x.1 x.2=R/\x.1.good/\x.2.length<=i*134217728) (s,[]) ⟨hR.symm,h,Nat.zero_le _⟩ ?_ ?_ ?_
 ·simp only [go_sem,seval]<;>simp
 ·intro c x hc hdc hwc hI;obtain ⟨t,ds⟩:=x;obtain ⟨hI,hg,hdl⟩:=hI;dsimp only at hI hg hdl |-;have hdc:decide ((c:Int) < 3)=true:=hdc;obtain ⟨m,hm⟩:∃ m,3-c=m+1:=⟨3-c-1,by omega⟩
  have hm2:3-(c+1)=m:=by omega
  rw [hm] at hI;simp only [j0] at hI;have c1:=AD t.bE t.aj c hg.small.bE hg.dz.bs hg.small.aj hg.ms;have hll:=KK t.bE t.aj c;have hdd:=zA t.bE t.aj c;have hms:=hg.ms;have c2:=iS t (fq t.bE t.aj c) hg.small.bE hg.dz.bs (by omega);have hpg:=NM hg c;obtain ⟨P,hP⟩:=aO (uo t c);rw [<- hP] at hI hpg;simp only [uo] at hP;obtain ⟨g,hgd⟩:=aO (fq t.bE t.aj c);obtain ⟨D1,hD1⟩:∃ g,g=iz t.bE t.aj c:=⟨_,rfl⟩
  obtain ⟨re,hre⟩:∃ g,g=jc t.bE t.aj c:=⟨_,rfl⟩
  rw [<- hgd] at c1 c2 hP hll;rw [<- hD1] at c1 hI hdd;rw [<- hre] at c1 hP;obtain ⟨PS,hPS⟩:∃ p,p=kf t g:=⟨_,rfl⟩
  obtain ⟨PE,hPE⟩:∃ p,p=rV t g:=⟨_,rfl⟩
  rw [<- hPS,<- hPE] at c2 hP;clear hgd hD1 hre hPS hPE;simp only [bn.cells,aq.cells] at c1;simp only [af.cells] at c2 |-;simp only [go_sem,seval,hdc];(with_reducible and_intros)<;>first|exact .dq|omega|skip
  refine aa.pure c1 ?_
  by_cases q1:re=0
  case neg =>
   have d:(re==0)=false:=by simpa using q1
   rw [if_neg (fun h=>q1 h.1)] at hP;rw [hP] at hI;dsimp only at hI;rw [if_neg q1] at hI;rw [<- hI];simp only [go_sem,seval,bne,d]
   all_goals simp
  rw [q1] at hP |-
  by_cases q2:g=[]
  ·rw [if_neg (fun h=>h.2 q2)] at hP;rw [hP] at hI hpg;dsimp only at hI hpg;rw [if_pos rfl] at hI;rw [q2];simp only [go_sem,seval,List.map_nil,List.length_nil,aI,hwc];(with_reducible and_intros)<;>first|exact .dq|omega|skip
   refine ah.step (t,ds++D1) hc ⟨by rw [hm2];exact hI,hpg,by simp;omega⟩ ?_;simp only [go_sem,seval]<;>simp
  have hgp:decide ((0:Int) < (g.length:Int))=true:=by
   have:g.length≠0:=fun h=>q2 (List.eq_nil_of_length_eq_zero h)
   simp;omega
  rw [if_pos ⟨rfl,q2⟩] at hP;rw [hP] at hI hpg;dsimp only at hI hpg;simp only [go_sem,seval,aI,hgp];(with_reducible and_intros)<;>first|exact .dq|omega|skip
  refine aa.gen [] [0] false (by simp) ?_;simp only [go_sem,seval];refine bg.intro c2 ?_;simp only [go_sem,seval];(with_reducible and_intros)<;>first|exact .dq|omega|skip
  by_cases q3:PE=0
  ·have d:(PE==0)=true:=by simpa using q3
   rw [if_pos q3] at hI;simp only [go_sem,seval,bne,d,aI,hwc];(with_reducible and_intros)<;>first|exact .dq|omega|skip
   refine ah.step (PS,ds++D1) hc ⟨by rw [hm2];exact hI,hpg,by simp;omega⟩ ?_;simp only [go_sem,seval]<;>simp
  ·have d:(PE==0)=false:=by simpa using q3
   rw [if_neg q3] at hI;rw [<- hI];simp only [go_sem,seval,bne,d]
   all_goals simp
 intro x _ hI;obtain ⟨t,ds⟩:=x;have hI:=hI.1;have hI:(t,ds,(0:Int))=R:=hI;subst hI;simp only [af.cells];simp only [go_sem,seval]
theorem Spec.MY {P:Program} {f:FuncId} {hs ds hs':List D} {d:D} (h:Abs.Spec P f hs ds hs' d) (k:Nat) (hk:hs.length<=k) {hs2:List D} {d2:D} (hn:hs'.getD k .undef≠.undef) (hd:(yP k (td [(0,d)] (qO 0 hs'))).t 0=d2)
  (ho:∀ r,(yP k (td [(0,d)] (qO 0 hs'))).o r=hs2.getD r .undef) (hu:∀ i,i < hs.length->hs'.getD i .undef=.undef->hs2.getD i .undef=.undef):Abs.Spec P f hs ds hs2 d2:=by
 refine ⟨h.1,?_⟩;intro w l0 G0 own0 S0 vs hT hl0 hG hsz hr hobj;refine (h.2 w l0 G0 own0 S0 vs hT hl0 hG hsz hr hobj).mono ?_
 rintro e w' ⟨v,rfl,o⟩
 refine ⟨v,rfl,o.os,o.tape,o.output,o.size,o.old,o.part,?_⟩;obtain ⟨lev,own,S,h1,h2,h3,h4,h5⟩:=o.rep
 have hi:Inv w l0 G0 S w' lev own S (td [(0,d)] (qO 0 hs')) (fun j=>if j=0 then v else Go.undef):=by
  refine ⟨⟨o.os,hT⟩,o.tape,o.output,o.size,o.old,o.part,h1,h2,fun _ _ _=>rfl,?_,?_⟩
  ·intro s
   show aE _ _ (Abs.look [(0,d)] s)
   by_cases hs:s=0
   ·subst hs;simpa [Abs.look] using h3
   ·simp only [Abs.look,if_neg hs];exact .undef _
  ·intro r
   show jZ _ _ _ _ _ _ r (Abs.look (qO 0 hs') r)
   rw [nY];simpa using h4 r
 have hi':=(Inv.frz hi k).resolve_right (fun hq=>hn (by
  have hq:Abs.look (qO 0 hs') k=.undef:=hq;rw [nY] at hq
  simpa using hq))
 refine ⟨_,own,iX S k none,hi'.priv,hi'.iy,?_,?_,?_⟩
 ·have:=hi'.kX 0;rw [hd] at this;simpa using this
 ·intro r;have:=hi'.objs r
  rwa [ho] at this
 ·intro i hm hne;have:i≠k:=by omega
  simp only [iX,this,if_false];exact h5 i hm fun hh=>hne (hu i hm hh)
def qt (s:af) (c:aY):af × Int:=
 if within c.aX 1 1048576&&within c.aR 1 1073741824 then
  (if eo s.aj c.who&&(eo s.aj c.other&&bf s.aj c.inst) then
   (if c.who=c.other then (s,16)
   else if (eV s.aj c.who).state=2/\(eV s.aj c.other).state=1 then
    (if 32<=s.aT.length then (s,9) else ({ s with aT:=s.aT++[⟨c.who,c.inst,c.other,c.aX,c.aR⟩] },0))
   else (s,14))
  else (s,10))
 else (s,3)
@[reducible] def af.va (s:af) (r:Nat):List D:=[.int .i64 s.now,.int .i64 s.day,.int .i64 s.phase,.sl 3 (s.aj.ms.map ak.cells),.sl 12 (s.aj.ns.map ay.cells),.sl 4 (s.aj.xs.map av.cells),.int .i64 s.book.next,.sl 7 (s.book.ts.map aL.cells),.sl 4 (s.book.qs.map aA.cells),
 .int .i64 s.bE.last,.sl 4 (s.bE.bs.map bJ.cells),.sl 3 (pl s.ps),.sl 4 (s.calls.map au.cells),.ref r,.sl 7 (s.aM.map bu.cells)]
theorem GB (s:af) (c:aY) (h:s.good):Abs.Spec Tryz.prog 87 [.box (s.va 1),.own 5 (s.aT.map bp.cells)] [.addr 0 0,.agg c.cells] [.box ((qt s c).1.va 2),.undef,.own 5 ((qt s c).1.aT.map bp.cells)] (.int .i64 (qt s c).2):=by
 have c1:=gf c.aX 1 1048576;have c2:=gf c.aR 1 1073741824;have c3:=bV s.aj c.who h.small.aj.small;have c4:=bV s.aj c.other h.small.aj.small;have c5:=dc s.aj c.inst h.small.aj.small;have hbl:=h.aT;obtain ⟨R,hR⟩:=aO (qt s c);rw [<- hR];simp only [qt] at hR;obtain ⟨m,hm⟩:=aO (eV s.aj c.who);obtain ⟨m2,hm2⟩:∃ m,m=eV s.aj c.other:=⟨_,rfl⟩
 obtain ⟨mi,hmi⟩:∃ m,m=eo s.aj c.who:=⟨_,rfl⟩
 obtain ⟨mi2,hmi2⟩:∃ m,m=eo s.aj c.other:=⟨_,rfl⟩
 obtain ⟨ii,hii⟩:∃ m,m=bf s.aj c.inst:=⟨_,rfl⟩
 obtain ⟨y,hy⟩:∃ m,m=aV s.aj c.inst:=⟨_,rfl⟩
 rw [<- hm,<- hmi] at c3;rw [<- hm2,<- hmi2] at c4;rw [<- hii,<- hy] at c5;rw [<- hm,<- hm2,<- hmi,<- hmi2,<- hii] at hR;clear hm hm2 hmi hmi2 hii hy;simp only [aq.cells] at c3 c4 c5;simp only [af.va];simp only [aY.cells];refine aU 101 2 [.tmp 4] mixed Tryz.func87 ?_;simp only [go_sem,seval];(with_reducible and_intros)<;>first|exact .dq|omega|skip
 refine aa.pure c1 ?_;cases b1:within c.aX 1 1048576
 ·rw [b1] at hR;have hR:R=(s,3):=hR;rw [hR];simp only [go_sem,seval]<;>simp
 rw [b1,Bool.true_and] at hR;simp only [go_sem,seval];(with_reducible and_intros)<;>first|exact .dq|omega|skip
 refine aa.pure c2 ?_;cases b2:within c.aR 1 1073741824
 ·rw [b2] at hR;have hR:R=(s,3):=hR;rw [hR];simp only [go_sem,seval]<;>simp
 rw [b2,if_pos rfl] at hR;simp only [go_sem,seval];(with_reducible and_intros)<;>first|exact .dq|omega|skip
 refine aa.pure c3 ?_;simp only [go_sem,seval];(with_reducible and_intros)<;>first|exact .dq|omega|skip
 refine aa.pure c4 ?_;simp only [go_sem,seval];(with_reducible and_intros)<;>first|exact .dq|omega|skip
 refine aa.pure c5 ?_;clear c1 c2 c3 c4 c5;cases b3:mi
 ·rw [b3] at hR;have hR:R=(s,10):=hR;rw [hR];simp only [go_sem,seval];(with_reducible and_intros)<;>first|exact .dq|omega|skip
 rw [b3,Bool.true_and] at hR;cases b4:mi2
 ·rw [b4] at hR;have hR:R=(s,10):=hR;rw [hR];simp only [go_sem,seval];(with_reducible and_intros)<;>first|exact .dq|omega|skip
 rw [b4,Bool.true_and] at hR;cases b5:ii
 ·rw [b5] at hR;have hR:R=(s,10):=hR;rw [hR];simp only [go_sem,seval];(with_reducible and_intros)<;>first|exact .dq|omega|skip
 rw [b5,if_pos rfl] at hR;simp only [go_sem,seval];(with_reducible and_intros)<;>first|exact .dq|omega|skip
 by_cases k1:c.who=c.other
 ·have d:(c.who==c.other)=true:=by simpa using k1
  rw [if_pos k1] at hR;rw [hR];simp only [go_sem,seval,d]<;>simp
 have d1:(c.who==c.other)=false:=by simpa using k1
 rw [if_neg k1] at hR;simp only [go_sem,seval,d1];(with_reducible and_intros)<;>first|exact .dq|omega|skip
 by_cases k2:m.state=2
 case neg =>
  have d:(m.state==2)=false:=by simpa using k2
  rw [if_neg (fun h=>k2 h.1)] at hR;rw [hR];simp only [go_sem,seval,bne,d]<;>simp
 have d2:(m.state==2)=true:=by simpa using k2
 simp only [go_sem,seval,bne,d2];(with_reducible and_intros)<;>first|exact .dq|omega|skip
 by_cases k3:m2.state=1
 case neg =>
  have d:(m2.state==1)=false:=by simpa using k3
  rw [if_neg (fun h=>k3 h.2)] at hR;rw [hR];simp only [go_sem,seval,d]<;>simp
 have d3:(m2.state==1)=true:=by simpa using k3
 rw [if_pos ⟨k2,k3⟩] at hR;simp only [go_sem,seval,d3,aI];(with_reducible and_intros)<;>first|exact .dq|omega|skip
 by_cases k4:32<=s.aT.length
 ·have d4:decide ((32:Int)<=(s.aT.length:Int))=true:=by simp;omega
  rw [if_pos k4] at hR;rw [hR];simp only [go_sem,seval,d4]<;>simp
 have d4:decide ((32:Int)<=(s.aT.length:Int))=false:=by simp;omega
 rw [if_neg k4] at hR;rw [hR];simp only [go_sem,seval,d4,aI];(with_reducible and_intros)<;>first|exact .dq|omega|skip
 all_goals simp
theorem Ed (s:af) (c:aY) (h:s.good):Abs.Spec Tryz.prog 87 [.box (s.va 1),.own 5 (s.aT.map bp.cells)] [.addr 0 0,.agg c.cells] [.box (qt s c).1.cells,.undef] (.int .i64 (qt s c).2):=by
 refine Spec.MY (GB s c h) 2 (Nat.le_refl _) (by simp) rfl ?_ ?_
 ·intro r;rcases r with _ | _ | _ | r<;>rfl
 ·intro i hi hu;rcases i with _ | _ | i
  ·simp at hu
  ·rfl
  ·simp at hi;omega
theorem xV (s:af) (h:s.good):Abs.Spec Tryz.prog 89 [.box s.cells] [.addr 0 0] [.box (j0 3 0 s []).1.cells] (.bD [.sl 3 ((j0 3 0 s []).2.1.map aN.cells),.int .i64 (j0 3 0 s []).2.2]):=by
 refine Spec.MY (zU s h) 1 (Nat.le_refl _) (by simp) rfl ?_ ?_
 ·intro r;rcases r with _ | _ | r<;>rfl
 ·intro i hi hu;rcases i with _ | i
  ·simp at hu
  ·simp at hi
theorem aaq (n0 n1 n2 n3 n4:Int) (r0 r1 r2 r3 r4 r5 r6 r7 r8 r9:List (List D)):(fE [0,1,2,3,4,5,6,7,9] (td [(0,.agg [.int .i64 n0,.int .i64 n1,.int .i64 n2,.ref 0,.ref 1,.ref 2,.int .i64 n3,.ref 3,.ref 4,.int .i64 n4,.ref 5,.ref 6,.ref 7,.ref 8,.ref 9])] (qO 0 [.own 3 r0,.own 12 r1,.own 4 r2,.own 7 r3,.own 4 r4,.own 4 r5,.own 3 r6,.own 4 r7,.own 5 r8,.own 7 r9]))).t 0=.agg [.int .i64 n0,.int .i64 n1,.int .i64 n2,.sl 3 r0,.sl 12 r1,.sl 4 r2,.int .i64 n3,.sl 7 r3,.sl 4 r4,.int .i64 n4,.sl 4 r5,.sl 3 r6,.sl 4 r7,.ref 8,.sl 7 r9]:=by
 kernel_rfl
theorem XG (d:D) (r0 r1 r2 r3 r4 r5 r6 r7 r8 r9:List (List D)) (r:Nat):(fE [0,1,2,3,4,5,6,7,9] (td [(0,d)] (qO 0 [.own 3 r0,.own 12 r1,.own 4 r2,.own 7 r3,.own 4 r4,.own 4 r5,.own 3 r6,.own 4 r7,.own 5 r8,.own 7 r9]))).o r=[D.undef,.undef,.undef,.undef,.undef,.undef,.undef,.undef,.own 5 r8].getD r .undef:=by
 rcases r with _ | _ | _ | _ | _ | _ | _ | _ | _ | _ | r<;>kernel_rfl
theorem Kr (s:af) (hs:s.small):Abs.Spec Tryz.prog 27 [] [.agg s.cells] [.undef,.undef,.undef,.undef,.undef,.undef,.undef,.undef,.own 5 (s.aT.map bp.cells)] (.agg (s.va 8)):=by
 have h:=nS s hs;simp only [JV,Bm] at h;simp only [af.va];simp only [af.cells] at h |-;exact Spec.frozen h [0,1,2,3,4,5,6,7,9] (aaq ..) (fun r=>XG ..)
end Go.Proofs.YtacacccbcndjoaaGreat
