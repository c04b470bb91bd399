/- The reference's close: the whole, and what follows. No theorem of a claim. -/
import Derived.Test.YtnkobepdbkmedaaGreatDoorKG
import Derived.Test.YtnkobepdbkmedaaGreatDoorKE
set_option linter.unusedSimpArgs false
set_option linter.unusedVariables false
set_option maxHeartbeats 4000000
set_option maxRecDepth 16000
namespace Go.Proofs.YtnkobepdbkmedaaGreatDoor
open Go.Abs
def B7 {A:Type} (f:Nat->A) (n:Nat):List A:=(List.range n).map f
theorem Nj {A:Type} (f:Nat->A):B7 f 0=[]:=rfl
theorem Eu {A:Type} (f:Nat->A) (n:Nat):B7 f (n+1)=B7 f n++[f n]:=by simp [B7,List.range_succ]
theorem pO {A:Type} (f:Nat->A) (n:Nat):(B7 f n).length=n:=by simp [B7]
def iE (f:Nat->Int):Nat->Nat->Int
 | 0,_=>0
 | m+1,i=>if f i=0 then iE f m (i+1) else f i
def af.zero:af:=⟨0,0,0,⟨[],[],[]⟩,⟨0,[],[]⟩,⟨0,[]⟩,[],[],[],[]⟩
def bO (s:af) (w:Int) (c:Nat):Int:=jF w c (rH s w)
def CN (s:af) (w:Int) (c:Nat):Int:=lM w c (rH s w)
def gq (s:af) (w:Int) (c:Nat):List Int:=tq s w c (bO s w c)
def gH (s:af) (w:Int) (c:Nat):eY:=uR c (De s w c (bO s w c)) (gq s w c)
def xF (s:af) (w:Int) (c:Nat):Int:=if pK s w c (bO s w c)=0 then nF c (De s w c (bO s w c)) (gq s w c) else pK s w c (bO s w c)
def iO (s:af) (w:Int) (c:Nat):List aY × Int × Int:=lJ s w c (bO s w c) (gH s w c) ((gq s w c).getD 0 0) ((gq s w c).getD 1 0)
def nextId (l:bz):Int:=IntKind.wrap .i64 (l.last+1)
def fG (l:bz) (g:List aY) (e:Int):bz × Int:=if e=0/\g≠[] then (gW l (nextId l) g,eT l (nextId l) g) else (l,e)
def nD (w:Int) (c:Nat) (n:Int):List aQ:=if n==0 then [] else [⟨w,c,n⟩]
def nQ (s:af) (w:Int):Nat->Nat->bz->List aQ->bz × List aQ × Int
 | 0,_,l,p=>(l,p,0)
 | m+1,i,l,p =>
  if (fG l (iO s w i).1 (iO s w i).2.2).2=0 then nQ s w m (i+1) (fG l (iO s w i).1 (iO s w i).2.2).1 (p++nD w i (iO s w i).2.1)
  else (l,p,(fG l (iO s w i).1 (iO s w i).2.2).2)
def qE (w:Int) (l:List dS):List dS:=l.flatMap fun p=>if p.who==w then [] else [p]
def qg (w:Int) (l:List bM):List bM:=l.flatMap fun b=>if b.who==w||b.src==w then [] else [b]
def wP (s:af) (w:Int):Int:=
 if ot s w=0 then (if iE (CN s w) 3 0=0 then (if iE (xF s w) 3 0=0 then (nQ s w 3 0 s.aW []).2.2 else iE (xF s w) 3 0) else iE (CN s w) 3 0) else ot s w
def mu (s:af) (w:Int):af:=
 if wP s w=0 then { s with aj:=l6 s.aj w 3,book:=pP s w,aW:=(nQ s w 3 0 s.aW []).1,ps:=qE w s.ps,calls:=eL s.calls [w],bp:=qg w s.bp } else .zero
def Le (s:af) (w:Int):List eY:=if wP s w=0 then B7 (gH s w) 3 else []
def JZ (s:af) (w:Int):List aQ:=if wP s w=0 then (nQ s w 3 0 s.aW []).2.1 else []
theorem RU (s:af) (w:Int) (l:List aB):(pZ s w l).length<=l.length:=by
 have:=fF (f:=Oq s w) (m:=1) (fun p=>by unfold Oq;split<;>simp) l;simpa [pZ] using this
theorem R2 (s:af) (w:Int) (h:s.cU) (hs:s.small) (hq:s.book.qs.length < 2 ^ 20):(rH s w).length < 2 ^ 20:=by
 unfold rH;split
 ·rename_i he;unfold ot at he;split at he
  ·rename_i hm;have hb:=(p6 (vQ hm).1).2.1;have:=(Ck (s:=s) (w:=w) 8 0 (IW hb hs.book hq h.qs)).short;have h2:=RU s w (mX s w 8 0 s.book).1.qs;omega
  ·rename_i hm;exact absurd he hm
 ·simp
theorem R4 {s:af} {w c g:Int} (h:pK s w c g=0):∃ a b rest,tq s w c g=a :: b :: rest/\rest.length=3:=by
 refine ⟨_,_,_,by rw [tq,if_pos h],rfl⟩
theorem TC {c iy:Int} {caps:List Int} {a b:Int} {rest:List Int} (h:nF c iy caps=0) (hc:caps=a :: b :: rest):dj (a-(uR c iy caps).c0)/\dj (b-(uR c iy caps).c1):=by
 simp only [uR,if_pos h,N8];unfold nF at h;split at h
 ·rename_i hk;simp only [cr,beq_iff_eq] at hk;have hg:=hk.2.2;unfold tI at hg;split at hg
  ·rename_i h1;simp only [cr,Bool.not_eq_true',decide_eq_false_iff_not] at h1;split at hg
   ·rename_i h2;have ha:=List.all_eq_true.1 h1.2 a (by rw [hc];simp);have hb:=List.all_eq_true.1 h1.2 b (by rw [hc];simp);have ha2:=List.all_eq_true.1 h2 a (by rw [hc];simp);have hb2:=List.all_eq_true.1 h2 b (by rw [hc];simp);simp only [Bool.not_eq_true',decide_eq_false_iff_not] at ha2 hb2;have ha:=cg.1 ha;have hb:=cg.1 hb;rw [hc];simp only [BY,List.getD_cons_zero,List.getD_cons_succ];exact ⟨⟨by omega,by omega⟩,⟨by omega,by omega⟩⟩
   ·cases hg
  ·cases hg
 ·cases h
theorem yL {f:Nat->Int}:∀ {m i:Nat},iE f m i=0->∀ c,i<=c->c < i+m->f c=0
 | 0,i,_,c,h1,h2=>by omega
 | m+1,i,h,c,h1,h2=>by
  simp only [iE] at h;split at h
  ·rename_i h0;rcases Nat.lt_or_ge i c with h3 | h3
   ·exact yL h c (by omega) (by omega)
   ·obtain rfl:c=i:=by omega
    exact h0
  ·rename_i h0;exact absurd h h0
theorem Ew {l:bz} {id:Int} {g:List aY}:(gW l id g).bs.length<=306/\∀ b∈(gW l id g).bs,b.cU:=by
 unfold gW;split
 ·rename_i h;refine ⟨Nat.le_trans (M3 _ _ _) tY,?_⟩
  have hin:AX l g gv=true:=by
   unfold eT at h;split at h
   ·split at h
    ·split at h
     ·cases h
     ·split at h
      ·split at h
       ·assumption
       ·cases h
      ·rename_i h2;exact absurd h h2
    ·cases h
   ·cases h
  intro b hb;obtain ⟨a,ha,hb⟩:=List.mem_flatMap.1 hb;unfold qT at hb;split at hb
  ·cases hb
  ·obtain rfl:=List.mem_singleton.1 hb;have hs:=List.all_eq_true.1 hin a ha
   have har:dj a.kind/\dj a.who/\dj a.cur:=by
    obtain ⟨k,hk,ha⟩:=List.mem_flatMap.1 ha;obtain ⟨w,hw,ha⟩:=List.mem_flatMap.1 ha;obtain ⟨c,hc,ha⟩:=List.mem_flatMap.1 ha;have h1:=List.mem_range.1 hk;have h2:=List.mem_range.1 hw;have h3:=List.mem_range.1 hc;unfold acc at ha;split at ha
    ·obtain rfl:=List.mem_singleton.1 ha;exact ⟨⟨by dsimp only;omega,by dsimp only;omega⟩,⟨by dsimp only;omega,by dsimp only;omega⟩,⟨by dsimp only;omega,by dsimp only;omega⟩⟩
    ·cases ha
   exact ⟨har.1,har.2.1,har.2.2,oS hs⟩
 ·exact ⟨by simp,by simp⟩
def bz.gF (l:bz):Prop:=l.bs.length < 2 ^ 29/\(∀ b∈l.bs,b.cU)/\dj l.last
theorem TN {l:bz} {id:Int} {g:List aY} (h:eT l id g=0):1<=id/\id<=1099511627776:=by
 unfold eT at h;split at h
 ·split at h
  ·rename_i h1;simpa [within] using h1
  ·cases h
 ·cases h
theorem Jz {l:bz} {id:Int} {g:List aY}:(gW l id g).gF:=by
 refine ⟨Nat.lt_of_le_of_lt Ew.1 (by decide),Ew.2,?_⟩;unfold gW;split
 ·rename_i h;have:=TN h;exact ⟨by dsimp only;omega,by dsimp only;omega⟩
 ·exact ⟨by decide,by decide⟩
theorem M4 {l:bz} (h:l.gF) (g:List aY) (e:Int):(fG l g e).1.gF:=by
 unfold fG;split
 ·exact Jz
 ·exact h
theorem Px (w:Int) (l:List dS):(qE w l).length<=l.length:=by
 have:=fF (f:=fun p:dS=>if p.who==w then [] else [p]) (m:=1) (fun p=>by split<;>simp) l;simpa [qE] using this
theorem ET (w:Int) (l:List bM):(qg w l).length<=l.length:=by
 have:=fF (f:=fun b:bM=>if b.who==w||b.src==w then [] else [b]) (m:=1) (fun p=>by split<;>simp) l;simpa [qg] using this
def jU (l:List (List Int)):List (List D):=l.map fun x=>[.sl 1 (ints x)]
theorem C7 (l:List (List Int)):(jU l).length=l.length:=by simp [jU]
theorem On (l:List (List Int)) {i:Nat} (h:i < l.length):(jU l).getD i []=[.sl 1 (ints l[i])]:=by simp [jU,h]
theorem Ox (s:af) (w:Int) (hs:s.small) (hr:s.cU) (hm:s.aj.ms.length < 2 ^ 27) (hq:s.book.qs.length < 2 ^ 20) (hbl:s.bp.length < 2 ^ 20) (hlb:s.aW.bs.length < 2 ^ 29) :
  Abs.Spec Tryz.prog 119 [] [.agg s.cells,.int .i64 w] [.own 3 (pl (mu s w).ps),.own 5 ((mu s w).bp.map bM.cells),.own 8 ((Le s w).map eY.cells),.own 3 ((JZ s w).map aQ.cells)]
   (.bI [.agg [.int .i64 (mu s w).now,.int .i64 (mu s w).day,.int .i64 (mu s w).phase,.sl 3 ((mu s w).aj.ms.map ak.cells),.sl 12 ((mu s w).aj.ns.map ay.cells),.sl 4 ((mu s w).aj.xs.map au.cells),.int .i64 (mu s w).book.next,.sl 7 ((mu s w).book.ts.map aL.cells),.sl 4 ((mu s w).book.qs.map aB.cells),
    .int .i64 (mu s w).aW.last,.sl 4 ((mu s w).aW.bs.map bC.cells),.ref 0,.sl 4 ((mu s w).calls.map aA.cells),.ref 1,.sl 7 ((mu s w).aN.map ck.cells)],.ref 2,.ref 3,.int .i64 (wP s w)]):=by
 have c1:=AG s w hs hr hq hbl;have c2:=aR s hs;have hDl:=R2 s w hr hs hq;have cG:=fun c=>xw w c (rH s w) (by omega)
 have cC:=fun c g=>Lc s w c g hs hr hm
 have cF:=fun c iy caps h=>KJ c iy caps h
 have cX:=fun c g f caps a b rest h1 h2=>Fl s w c g f caps a b rest h1 h2 hs hr hm
 have cP:=fun l id g (h1:l.bs.length < 2 ^ 30) h2 h3=>qG l id g h1 h2 h3
 have cPut:=CP s.aj w 3 hs.aj;have cW:=DQ s.calls [w] hs.calls (by simp)
 have hpE:ot s w=0->bD s=true:=fun h=>by
  unfold ot at h;split at h
  ·rename_i hm;exact (vQ hm).1
  ·rename_i hm;exact absurd h hm
 obtain ⟨E,hE⟩:=aH (wP s w);have hE0:=hE;simp only [wP] at hE;simp only [mu,Le,JZ,<- hE0];obtain ⟨pe,hpe⟩:=aH (ot s w);rw [<- hpe] at c1 hpE hE;simp only [af.cells] at c1 c2 cC cX |-;simp only [aF.cells] at c1;simp only [bz.cells] at cP;simp only [aq.cells] at cPut;simp only [eY.cells] at cF cX;simp only [ints,List.map_cons,List.map_nil] at cW;clear hE0;refine bu 241 2 [.cell 4 42,.tmp 5,.tmp 6,.tmp 7] mixed Tryz.func119 ?_;simp only [go_sem,seval];(with_reducible and_intros)<;>first|exact .dq|omega|skip
 refine aa.pure c1 ?_;clear c1
 by_cases b1:pe=0
 case neg =>
  have d:(pe==0)=false:=by simpa using b1
  rw [if_neg b1] at hE;rw [hE];simp only [if_neg b1];simp only [go_sem,seval,bne,d];(with_reducible and_intros)<;>first|exact .dq|omega|skip
  all_goals simp [af.zero,pl]
 obtain ⟨hroll,_,_,hps,_⟩:=p6 (hpE b1);have cX:=fun c g f caps a b rest h1 h2=>cX c g f caps a b rest h1 h2 hroll hps
 rw [if_pos b1] at hE;rw [b1];clear hpE hpe b1;simp only [go_sem,seval];(with_reducible and_intros)<;>first|exact .dq|omega|skip
 refine aa.pure c2 ?_;clear c2;simp only [go_sem,seval];(with_reducible and_intros)<;>first|exact .dq|omega|skip
 obtain ⟨F1,hF1⟩:=aH (iE (CN s w) 3 0);rw [<- hF1] at hE;refine aC.walk (S:=Unit) 3 [1,2,4,8,9,10,12,13,14] [48,80,144,160,208] (fun i _=>[(16,.int .i64 i),(15,.ref 1024)]) (fun i _=>[(1024,.own 1 (ints (B7 (bO s w) i)))]) (fun i _=>iE (CN s w) (3-i) i=F1) () hF1.symm ?_ ?_ ?_
 ·simp only [go_sem,seval,Nj]<;>simp [ints]
 ·intro c _ hc hdc hwc hI;have hdc:decide ((c:Int) < 3)=true:=hdc;obtain ⟨m,hm⟩:∃ m,3-c=m+1:=⟨3-c-1,by omega⟩
  have hm2:3-(c+1)=m:=by omega
  rw [hm] at hI;simp only [iE] at hI;have cGc:=cG c;have e1:lM w c (rH s w)=CN s w c:=rfl;have e2:jF w c (rH s w)=bO s w c:=rfl;rw [e1,e2] at cGc;have hst:=Eu (bO s w) c;have hlen:=pO (bO s w) c;have hstI:ints (B7 (bO s w) (c+1))=ints (B7 (bO s w) c)++[[.int .i64 (bO s w c)]]:=by rw [hst];simp only [ints,List.map_append,List.map_cons,List.map_nil]
  obtain ⟨T,hT⟩:=aH (B7 (bO s w) c);rw [<- hT] at hstI hlen |-;clear cG cC cF cX cP cPut cW hst hT e1 e2;simp only [go_sem,seval,hdc];(with_reducible and_intros)<;>first|exact .dq|omega|skip
  refine aa.pure cGc ?_
  by_cases q:CN s w c=0
  ·rw [if_pos q] at hI;rw [q];simp only [go_sem,seval,bne,av,hlen,hwc];(with_reducible and_intros)<;>first|exact .dq|omega|skip
   refine ah.step () hc (by rw [hm2];exact hI) ?_;simp only [go_sem,seval,hstI]
  ·have d:(CN s w c==0)=false:=by simpa using q
   rw [if_neg q] at hI;rw [<- hI,if_neg q] at hE;rw [hE];simp only [if_neg q];simp only [go_sem,seval,bne,d];(with_reducible and_intros)<;>first|exact .dq|omega|skip
   all_goals simp [af.zero,pl]
 intro _ _ hI;have hI:F1=0:=hI.symm;rw [if_pos hI] at hE;clear cG hI;have hGl:=pO (bO s w) 3;have hGat:∀ c,c < 3->(B7 (bO s w) 3)[c]?=some (bO s w c):=fun c h=>by simp [B7,h]
 obtain ⟨GS,hGS⟩:=aH (B7 (bO s w) 3);simp only [<- hGS] at hGl hGat;rw [<- hGS];clear hGS;simp only [go_sem,seval];(with_reducible and_intros)<;>first|exact .dq|omega|skip
 obtain ⟨F2,hF2⟩:=aH (iE (xF s w) 3 0);rw [<- hF2] at hE;refine aC.walk (S:=Unit) 3 [1,2,4,8,9,12,14,15] [48,80,144,160,208,1024] (fun i _=>[(20,.int .i64 i),(13,.ref 1584),(19,.ref 1648)]) (fun i _=>[(1584,.own 8 ((B7 (gH s w) i).map eY.cells)),(1648,.own 1 (jU (B7 (gq s w) i)))]) (fun i _=>iE (xF s w) (3-i) i=F2) () hF2.symm ?_ ?_ ?_
 ·simp only [go_sem,seval,Nj]<;>simp [jU]
 ·intro c _ hc hdc hwc hI;have hdc:decide ((c:Int) < 3)=true:=hdc;obtain ⟨m,hm⟩:∃ m,3-c=m+1:=⟨3-c-1,by omega⟩
  have hm2:3-(c+1)=m:=by omega
  rw [hm] at hI;simp only [iE] at hI;have hcg:c < GS.length:=by omega
  have hmg:=ints_at GS hcg
  have hga:GS[c]=bO s w c:=by
   have:=hGat c hc;rw [List.getElem?_eq_getElem hcg] at this;exact Option.some.inj this
  rw [hga] at hmg;have hlc:(c:Int) < (GS.length:Int):=by omega
  have cCc:=cC c (bO s w c);have hcl:(tq s w c (bO s w c)).length < 2 ^ 30:=by unfold tq;split<;>simp
  have cFc:=cF c (De s w c (bO s w c)) (tq s w c (bO s w c)) hcl;have hCE:xF s w c=if pK s w c (bO s w c)=0 then nF c (De s w c (bO s w c)) (tq s w c (bO s w c)) else pK s w c (bO s w c):=rfl
  have e1:uR c (De s w c (bO s w c)) (tq s w c (bO s w c))=gH s w c:=rfl;have hst1:=Eu (gH s w) c;have hst2:=Eu (gq s w) c;have hst2':jU (B7 (gq s w) (c+1))=jU (B7 (gq s w) c)++[[.sl 1 (ints (tq s w c (bO s w c)))]]:=by rw [hst2];simp only [jU,List.map_append,List.map_cons,List.map_nil,gq]
  have hl1:=pO (gH s w) c;have hl2:=pO (gq s w) c;rw [e1] at cFc;obtain ⟨T,hT⟩:=aH (B7 (gH s w) c);obtain ⟨U,hU⟩:=aH (B7 (gq s w) c);rw [<- hT] at hst1 hl1;rw [<- hU] at hst2' hl2;rw [<- hT,<- hU];obtain ⟨fl,hfl⟩:=aH (gH s w c);rw [<- hfl] at cFc hst1;clear cC cF cX cP cPut cW hst2 hT hU e1 hGat;simp only [go_sem,seval,hdc,av,hmg];(with_reducible and_intros)<;>first|exact .dq|omega|skip
  refine aa.pure cCc ?_
  by_cases q:pK s w c (bO s w c)=0
  case neg =>
   have d:(pK s w c (bO s w c)==0)=false:=by simpa using q
   rw [if_neg q] at hCE;rw [hCE,if_neg q] at hI;rw [<- hI,if_neg q] at hE;rw [hE];simp only [if_neg q];simp only [go_sem,seval,bne,d];(with_reducible and_intros)<;>first|exact .dq|omega|skip
   all_goals simp [af.zero,pl]
  rw [if_pos q] at hCE;rw [q];simp only [go_sem,seval];(with_reducible and_intros)<;>first|exact .dq|omega|skip
  refine aa.pure cFc ?_;rw [<- hCE]
  by_cases q2:xF s w c=0
  ·rw [if_pos q2] at hI;rw [q2];simp only [go_sem,seval,bne,aJ,C7,hl1,hl2,hwc];(with_reducible and_intros)<;>first|exact .dq|omega|skip
   refine ah.step () hc (by rw [hm2];exact hI) ?_;simp only [go_sem,seval,hst1,hst2']<;>simp
  ·have d:(xF s w c==0)=false:=by simpa using q2
   rw [if_neg q2] at hI;rw [<- hI,if_neg q2] at hE;rw [hE];simp only [if_neg q2];simp only [go_sem,seval,bne,d];(with_reducible and_intros)<;>first|exact .dq|omega|skip
   all_goals simp [af.zero,pl]
 intro _ _ hI;have hI:F2=0:=hI.symm;rw [if_pos hI] at hE;have hCE0:∀ c < 3,xF s w c=0:=fun c h=>yL (hF2.symm.trans hI) c (by omega) (by omega)
 clear cC cF hI;have hFl:=pO (gH s w) 3;have hFat:∀ c,c < 3->(B7 (gH s w) 3)[c]?=some (gH s w c):=fun c h=>by simp [B7,h]
 have hCl:(jU (B7 (gq s w) 3)).length=3:=by rw [C7,pO]
 have hCat:∀ c,c < 3->(jU (B7 (gq s w) 3)).getD c []=[.sl 1 (ints (gq s w c))]:=fun c h=>by
  rw [On _ (by rw [pO];exact h)];simp [B7]
 obtain ⟨FS,hFS⟩:=aH (B7 (gH s w) 3);simp only [<- hFS] at hFl hFat;obtain ⟨CS,hCS⟩:=aH (jU (B7 (gq s w) 3));simp only [<- hCS] at hCl hCat;rw [<- hCS];obtain ⟨R,hR⟩:=aH (nQ s w 3 0 s.aW []);simp only [<- hR] at hE |-;clear hCS;have hlf:s.aW.gF:=⟨hlb,hr.bs,hr.last⟩
 simp only [go_sem,seval,<- hFS];(with_reducible and_intros)<;>first|exact .dq|omega|skip
 refine aC.walk (S:=bz × List aQ) 3 [1,2,4,8,9,12,13,15,19] [48,80,144,160,1024,1584,1648] (fun i _=>[(25,.int .i64 i),(14,.ref 2544)])
  (fun _ x=>[(208,.box [.int .i64 s.now,.int .i64 s.day,.int .i64 s.phase,.sl 3 (s.aj.ms.map ak.cells),.sl 12 (s.aj.ns.map ay.cells),.sl 4 (s.aj.xs.map au.cells),.int .i64 s.book.next,.sl 7 (s.book.ts.map aL.cells),.sl 4 (s.book.qs.map aB.cells),
   .int .i64 x.1.last,.sl 4 (x.1.bs.map bC.cells),.sl 3 (pl s.ps),.sl 4 (s.calls.map aA.cells),.sl 5 (s.bp.map bM.cells),.sl 7 (s.aN.map ck.cells)]),(2544,.own 3 (x.2.map aQ.cells))])
  (fun i x=>nQ s w (3-i) i x.1 x.2=R/\x.1.gF/\x.2.length<=i) (s.aW,[]) ⟨hR.symm,hlf,Nat.le_refl _⟩ ?_ ?_ ?_
 ·simp only [go_sem,seval]<;>simp
 ·intro c x hc hdc hwc hI;obtain ⟨L,p⟩:=x;obtain ⟨hI,hLf,hpl⟩:=hI;dsimp only at hI hLf hpl |-;have hdc:decide ((c:Int) < 3)=true:=hdc;obtain ⟨m,hm⟩:∃ m,3-c=m+1:=⟨3-c-1,by omega⟩
  have hm2:3-(c+1)=m:=by omega
  rw [hm] at hI;simp only [nQ] at hI;have hcg:c < GS.length:=by omega
  have hcf:c < FS.length:=by omega
  have hmg:=ints_at GS hcg
  have hga:GS[c]=bO s w c:=by
   have:=hGat c hc;rw [List.getElem?_eq_getElem hcg] at this;exact Option.some.inj this
  rw [hga] at hmg;have hmf:=aG (c:=eY.cells) FS hcf
  have hfa:FS[c]=gH s w c:=by
   have:=hFat c hc;rw [List.getElem?_eq_getElem hcf] at this;exact Option.some.inj this
  rw [hfa] at hmf;have hmc:=hCat c hc;have hlc:(c:Int) < (GS.length:Int):=by omega
  have hlf:(c:Int) < (FS.length:Int):=by omega
  have hlk:(c:Int) < (CS.length:Int):=by omega
  have hc0:=hCE0 c hc;unfold xF at hc0
  have hcE:pK s w c (bO s w c)=0:=by
   split at hc0
   ·assumption
   ·exact hc0
  rw [if_pos hcE] at hc0;obtain ⟨a,b,rest,ho,hrl⟩:=R4 hcE;have ho:gq s w c=a :: b :: rest:=ho;obtain ⟨hx,hy⟩:=TC hc0 ho;have cXc:=cX c (bO s w c) (gH s w c) (gq s w c) a b rest ho (by omega) hx hy;have hA:iO s w c=lJ s w c (bO s w c) (gH s w c) a b:=by unfold iO;rw [ho];rfl
  rw [<- hA] at cXc
  have hgl:(iO s w c).1.length<=306:=by
   rw [hA];unfold lJ;split
   ·split
    ·split
     ·exact vK _
     ·simp
    ·simp
   ·simp
  have cPc:=fun h=>cP L (nextId L) (iO s w c).1 (by have:=hLf.1;omega) hLf.2.1 h
  have cPc:=cPc (by omega);simp only [nextId] at cPc;have hPf:=M4 hLf (iO s w c).1 (iO s w c).2.2;obtain ⟨g,hg⟩:=aH ((iO s w c).1);obtain ⟨n,hn⟩:=aH ((iO s w c).2.1);obtain ⟨e,he⟩:=aH ((iO s w c).2.2);simp only [<- hg,<- hn,<- he] at cXc cPc hPf hI hgl;obtain ⟨fl,hfl⟩:=aH (gH s w c);rw [<- hfl] at hmf cXc;simp only [eY.cells] at hmf;clear cX cP hA hg hn he hGat hFat hCat hx hy hc0 hcE hCE0 cPut cW hfl;simp only [go_sem,seval,hdc,av,aJ,hmg,hmf,hmc];(with_reducible and_intros)<;>first|exact .dq|omega|skip
  refine aa.pure cXc ?_
  by_cases q1:e=0
  case neg =>
   have d:(e==0)=false:=by simpa using q1
   have hp0:fG L g e=(L,e):=by simp [fG,q1]
   rw [hp0] at hI;dsimp only at hI;rw [if_neg q1] at hI;rw [hE,<- hI];simp only [if_neg q1];simp only [go_sem,seval,bne,d];(with_reducible and_intros)<;>first|exact .dq|omega|skip
   all_goals simp [af.zero,pl]
  rw [q1] at hI hPf |-
  by_cases q2:g=[]
  ·have hp0:fG L g 0=(L,0):=by simp [fG,q2]
   rw [hp0] at hI hPf;dsimp only at hI hPf;rw [if_pos rfl] at hI;rw [q2];simp only [go_sem,seval,List.map_nil,List.length_nil];(with_reducible and_intros)<;>first|exact .dq|omega|skip
   by_cases q3:n=0
   ·have hI:nQ s w m (c+1) L p=R:=by rw [<- hI];simp [nD,q3]
    rw [q3];simp only [go_sem,seval,bne,hwc];(with_reducible and_intros)<;>first|exact .dq|omega|skip
    refine ah.step (L,p) hc ⟨by rw [hm2];exact hI,hPf,by dsimp only;omega⟩ ?_;simp only [go_sem,seval]<;>simp
   ·have d:(n==0)=false:=by simpa using q3
    have hI:nQ s w m (c+1) L (p++[⟨w,c,n⟩])=R:=by rw [<- hI];simp [nD,q3]
    simp only [go_sem,seval,bne,d,hwc,aJ];(with_reducible and_intros)<;>first|exact .dq|omega|skip
    refine ah.step (L,p++[⟨w,c,n⟩]) hc ⟨by rw [hm2];exact hI,hPf,by simp;omega⟩ ?_;simp only [go_sem,seval]<;>simp
  have hgp:decide ((0:Int) < (g.length:Int))=true:=by
   have:g.length≠0:=fun h=>q2 (List.eq_nil_of_length_eq_zero h)
   simp;omega
  have hp0:fG L g 0=(gW L (nextId L) g,eT L (nextId L) g):=by simp [fG,q2]
  simp only [nextId] at hp0;obtain ⟨M,hM⟩:=aH (gW L (IntKind.wrap .i64 (L.last+1)) g);obtain ⟨e2,he2⟩:=aH (eT L (IntKind.wrap .i64 (L.last+1)) g);rw [<- hM,<- he2] at hp0 cPc;rw [hp0] at hI hPf;dsimp only at hI hPf;simp only [go_sem,seval,aJ,hgp];(with_reducible and_intros)<;>first|exact .dq|omega|skip
  refine aa.pure cPc ?_;clear cPc hM he2 cXc
  by_cases q4:e2=0
  case neg =>
   have d:(e2==0)=false:=by simpa using q4
   rw [if_neg q4] at hI;rw [hE,<- hI];simp only [if_neg q4];simp only [go_sem,seval,bne,d];(with_reducible and_intros)<;>first|exact .dq|omega|skip
   all_goals simp [af.zero,pl]
  rw [q4] at hI |-;rw [if_pos rfl] at hI;simp only [go_sem,seval];(with_reducible and_intros)<;>first|exact .dq|omega|skip
  by_cases q3:n=0
  ·have hI:nQ s w m (c+1) M p=R:=by rw [<- hI];simp [nD,q3]
   rw [q3];simp only [go_sem,seval,bne,hwc];(with_reducible and_intros)<;>first|exact .dq|omega|skip
   refine ah.step (M,p) hc ⟨by rw [hm2];exact hI,hPf,by dsimp only;omega⟩ ?_;simp only [go_sem,seval]<;>simp
  ·have d:(n==0)=false:=by simpa using q3
   have hI:nQ s w m (c+1) M (p++[⟨w,c,n⟩])=R:=by rw [<- hI];simp [nD,q3]
   simp only [go_sem,seval,bne,d,hwc,aJ];(with_reducible and_intros)<;>first|exact .dq|omega|skip
   refine ah.step (M,p++[⟨w,c,n⟩]) hc ⟨by rw [hm2];exact hI,hPf,by simp;omega⟩ ?_;simp only [go_sem,seval]<;>simp
 rintro ⟨L,p⟩ _ ⟨hI,hLf,hpl⟩
 have hI:(L,p,(0:Int))=R:=hI;subst hI;dsimp only at hE hLf hpl |-;rw [hE];clear hE cX cP hGat hFat hCat hCE0 hGl hCl hlf hF1 hF2 hR;simp only [go_sem,seval];(with_reducible and_intros)<;>first|exact .dq|omega|skip
 refine aa.pure cPut ?_;simp only [go_sem,seval];(with_reducible and_intros)<;>first|exact .dq|omega|skip
 refine aa.gen [2768] [] false (by simp) ?_;simp only [go_sem,seval];refine aU.intro cW ?_;clear cPut cW;have hpsl:=hs.ps;obtain ⟨PU,hPU⟩:=aH (l6 s.aj w 3);obtain ⟨PB,hPB⟩:=aH (pP s w);obtain ⟨WL,hWL⟩:=aH (eL s.calls [w]);rw [<- hPU,<- hPB,<- hWL];clear hPU hPB hWL;simp only [go_sem,seval];(with_reducible and_intros)<;>first|exact .dq|omega|skip
 refine aC.walk (S:=Unit) s.ps.length [1,2,4,12,13,14] [48,80,1584,2544] (fun i _=>[(29,.int .i64 i)])
  (fun i _=>[(208,.box [.int .i64 s.now,.int .i64 s.day,.int .i64 s.phase,.sl 3 (PU.ms.map ak.cells),.sl 12 (PU.ns.map ay.cells),.sl 4 (PU.xs.map au.cells),.int .i64 PB.next,.sl 7 (PB.ts.map aL.cells),.sl 4 (PB.qs.map aB.cells),
   .int .i64 L.last,.sl 4 (L.bs.map bC.cells),.ref 3200,.sl 4 (WL.map aA.cells),.sl 5 (s.bp.map bM.cells),.sl 7 (s.aN.map ck.cells)]),(3200,.own 3 (pl (qE w (s.ps.take i))))])
  (fun _ _=>True) () trivial ?_ ?_ ?_
 ·simp only [go_sem,seval]<;>simp [qE,pl]
 ·intro i _ hi hdi hwi _;have hm:=nq s.ps hi;have hli:(i:Int) < (s.ps.length:Int):=by omega
  have hlt:(s.ps.take i).length=i:=by simp;omega
  have hs1:qE w (s.ps.take (i+1))=qE w (s.ps.take i)++_:=gG _ hi;have hkl:=Px w (s.ps.take i);obtain ⟨x,hx⟩:=aH (s.ps[i]);rw [<- hx] at hm hs1;obtain ⟨K,hK⟩:=aH (qE w (s.ps.take i));rw [<- hK] at hs1 hkl;rw [<- hK];have hp2:pl (K++[x])=pl K++[[.int .i64 x.who,.int .i64 x.bG,.int .i64 x.units]]:=by simp [pl,dS.cells]
  cases q1:x.who==w
  ·simp only [q1,fZ,if_false] at hs1;simp only [go_sem,seval,oR,hdi,hm,bne,q1,hwi];(with_reducible and_intros)<;>first|exact .dq|omega|skip
   refine ah.step () hi trivial ?_;simp only [go_sem,seval,hs1,hp2]<;>simp
  ·simp only [q1,if_true,List.append_nil] at hs1;simp only [go_sem,seval,oR,hdi,hm,bne,q1,hwi];(with_reducible and_intros)<;>first|exact .dq|omega|skip
   refine ah.step () hi trivial ?_;simp only [go_sem,seval,hs1]<;>simp
 intro _ hdx _;simp only [go_sem,seval,oR,hdx,List.take_length,aJ];(with_reducible and_intros)<;>first|exact .dq|omega|skip
 have hbsl:=hs.bp
 refine aC.walk (S:=Unit) s.bp.length [1,2,4,12,13,14] [48,80,1584,2544,3200] (fun i _=>[(30,.int .i64 i)])
  (fun i _=>[(208,.box [.int .i64 s.now,.int .i64 s.day,.int .i64 s.phase,.sl 3 (PU.ms.map ak.cells),.sl 12 (PU.ns.map ay.cells),.sl 4 (PU.xs.map au.cells),.int .i64 PB.next,.sl 7 (PB.ts.map aL.cells),.sl 4 (PB.qs.map aB.cells),
   .int .i64 L.last,.sl 4 (L.bs.map bC.cells),.ref 3200,.sl 4 (WL.map aA.cells),.ref 3792,.sl 7 (s.aN.map ck.cells)]),(3792,.own 5 ((qg w (s.bp.take i)).map bM.cells))])
  (fun _ _=>True) () trivial ?_ ?_ ?_
 ·simp only [go_sem,seval]<;>simp [qg]
 ·intro i _ hi hdi hwi _;have hm:=aG (c:=bM.cells) s.bp hi;have hli:(i:Int) < (s.bp.length:Int):=by omega
  have hlt:(s.bp.take i).length=i:=by simp;omega
  have hs1:qg w (s.bp.take (i+1))=qg w (s.bp.take i)++_:=gG _ hi;have hkl:=ET w (s.bp.take i);obtain ⟨x,hx⟩:=aH (s.bp[i]);rw [<- hx] at hm hs1;obtain ⟨K,hK⟩:=aH (qg w (s.bp.take i));rw [<- hK] at hs1 hkl;rw [<- hK];cases q1:x.who==w
  ·cases q2:x.src==w
   ·simp only [q1,q2,Bool.or_self,fZ,if_false] at hs1;simp only [go_sem,seval,aJ,hdi,hm,bne,q1,q2,hwi];(with_reducible and_intros)<;>first|exact .dq|omega|skip
    refine ah.step () hi trivial ?_;simp only [go_sem,seval,hs1]<;>simp
   ·simp only [q1,q2,Bool.false_or,if_true,List.append_nil] at hs1;simp only [go_sem,seval,aJ,hdi,hm,bne,q1,q2,hwi];(with_reducible and_intros)<;>first|exact .dq|omega|skip
    refine ah.step () hi trivial ?_;simp only [go_sem,seval,hs1]<;>simp
  ·simp only [q1,Bool.true_or,if_true,List.append_nil] at hs1;simp only [go_sem,seval,aJ,hdi,hm,bne,q1,hwi];(with_reducible and_intros)<;>first|exact .dq|omega|skip
   refine ah.step () hi trivial ?_;simp only [go_sem,seval,hs1]<;>simp
 intro _ hdx2 _;simp only [go_sem,seval,aJ,hdx2,List.take_length]
theorem Lm (s:af) (w:Int) (hs:s.small) (hr:s.cU) (hm:s.aj.ms.length < 2 ^ 27) (hq:s.book.qs.length < 2 ^ 20) (hbl:s.bp.length < 2 ^ 20) (hlb:s.aW.bs.length < 2 ^ 29) :
  Abs.Spec Tryz.prog 119 [] [.agg s.cells,.int .i64 w] [] (.bI [.agg (mu s w).cells,.sl 8 ((Le s w).map eY.cells),.sl 3 ((JZ s w).map aQ.cells),.int .i64 (wP s w)]):=by
 refine Spec.frozen (Ox s w hs hr hm hq hbl hlb) [0,1,2,3] rfl ?_;intro r;rcases r with _ | _ | _ | _ | r<;>rfl
def iS (s:af):List aQ:=(jJ (qA s.aj s.book)).1
def Bd (s:af):bz × Int:=fG s.aW (oI (iS s)) (rA (iS s))
def ig (s:af):Int:=if bD s then (if s.phase=0 then (if wO s.aj s.book=0 then (if (jJ (qA s.aj s.book)).2=0 then (Bd s).2 else (jJ (qA s.aj s.book)).2) else wO s.aj s.book) else 15) else 14
def jR (s:af):af:=if ig s=0 then { s with phase:=1,aj:=Mm s.aj,book:=y6 s.aj s.book,aW:=(Bd s).1 } else .zero
def pV (s:af):List aQ:=if ig s=0 then iS s else []
theorem RL (l:List aQ):(oI l).length<=306:=by
 unfold oI;split
 ·exact vK _
 ·simp
theorem TE (r:aq) (b:aF):(qA r b).length<=b.qs.length:=by
 unfold qA;split<;>simp
theorem uT {s:af} (h:bD s=true):0<=s.now/\s.now<=1099511627776/\0<=s.day/\s.day<=1099511627776/\0<=s.phase/\s.phase<=2:=by
 simp only [bD,qH,within,cr,decide_eq_true_eq] at h;have:=h.1;omega
theorem ED (s:af) (hs:s.small) (hr:s.cU) (hq:s.book.qs.length < 2 ^ 20) :
  Abs.Spec Tryz.prog 114 [] [.agg s.cells] [] (.bI [.agg (jR s).cells,.sl 3 ((pV s).map aQ.cells),.int .i64 (ig s)]):=by
 have c1:=gN s hs hr;have c2:=aR s hs;have c3:=Lw s.aj s.book hs.aj hs.book hr.qs;have hdl:=TE s.aj s.book;have c4:=Dt (qA s.aj s.book) (by omega);have hnl:=(J1 (qA s.aj s.book)).2;have c5:=DG (iS s) (by unfold iS;omega);have hgl:=RL (iS s);have c6:=qG s.aW (nextId s.aW) (oI (iS s)) hs.aW hr.bs (by omega);have c7:=K0 s.aj hs.aj;obtain ⟨E,hE⟩:=aH (ig s);have hE0:=hE;simp only [ig] at hE;simp only [jR,pV,<- hE0];clear hE0;obtain ⟨P,hP⟩:=aH (Bd s);rw [<- hP] at hE |-;simp only [Bd] at hP;have e1:(jJ (qA s.aj s.book)).1=iS s:=rfl;rw [e1] at c4;clear e1;obtain ⟨N,hN⟩:=aH (iS s);obtain ⟨ne,hne⟩:=aH ((jJ (qA s.aj s.book)).2);rw [<- hN] at c4 c5 c6 hP hgl |-;rw [<- hne] at c4 hE;clear hN hne hnl;obtain ⟨g,hg⟩:=aH (oI N);obtain ⟨ge,hge⟩:=aH (rA N);rw [<- hg] at c5 c6 hP hgl;rw [<- hge] at c5 hP;clear hg hge;simp only [af.cells] at c1 c2 |-;simp only [aF.cells] at c3;simp only [aq.cells] at c3 c7;simp only [bz.cells,nextId] at c6;simp only [nextId,fG] at hP;obtain ⟨RD,hRD⟩:=aH (qA s.aj s.book);obtain ⟨RB,hRB⟩:=aH (y6 s.aj s.book);obtain ⟨re,hre⟩:=aH (wO s.aj s.book);rw [<- hRD] at c3 c4;rw [<- hRB] at c3 |-;rw [<- hre] at c3 hE;clear hRD hRB hre hdl;refine bu 82 1 [.cell 2 42,.tmp 3,.tmp 4] mixed Tryz.func114 ?_;simp only [go_sem,seval];(with_reducible and_intros)<;>first|exact .dq|omega|skip
 refine aa.pure c1 ?_;cases b1:bD s
 ·rw [b1] at hE;rw [hE];simp only [go_sem,seval]<;>simp [af.zero,pl]
 rw [b1,if_pos rfl] at hE;simp only [go_sem,seval];(with_reducible and_intros)<;>first|exact .dq|omega|skip
 by_cases b2:s.phase=0
 case neg =>
  have d:(s.phase==0)=false:=by simpa using b2
  rw [if_neg b2] at hE;rw [hE];simp only [go_sem,seval,bne,d]<;>simp [af.zero,pl]
 rw [if_pos b2] at hE;rw [b2] at c1 c2 |-;simp only [go_sem,seval];(with_reducible and_intros)<;>first|exact .dq|omega|skip
 refine aa.pure c3 ?_;clear c1 c3
 by_cases b3:re=0
 case neg =>
  have d:(re==0)=false:=by simpa using b3
  rw [if_neg b3] at hE;rw [hE];simp only [if_neg b3];simp only [go_sem,seval,bne,d]<;>simp [af.zero,pl]
 rw [if_pos b3] at hE;rw [b3];simp only [go_sem,seval];(with_reducible and_intros)<;>first|exact .dq|omega|skip
 refine aa.pure c4 ?_
 by_cases b4:ne=0
 case neg =>
  have d:(ne==0)=false:=by simpa using b4
  rw [if_neg b4] at hE;rw [hE];simp only [if_neg b4];simp only [go_sem,seval,bne,d]<;>simp [af.zero,pl]
 rw [if_pos b4] at hE;rw [b4];clear c4;simp only [go_sem,seval];(with_reducible and_intros)<;>first|exact .dq|omega|skip
 refine aa.pure c2 ?_;simp only [go_sem,seval];(with_reducible and_intros)<;>first|exact .dq|omega|skip
 refine aa.pure c5 ?_;clear c2 c5
 by_cases q1:ge=0
 case neg =>
  have d:(ge==0)=false:=by simpa using q1
  rw [if_neg (by simp [q1])] at hP;rw [hE,hP];simp only [if_neg q1];simp only [go_sem,seval,bne,d]<;>simp [af.zero,pl]
 rw [q1] at hP |-
 by_cases q2:g=[]
 ·rw [if_neg (by simp [q2])] at hP;rw [hE,hP,q2];simp only [go_sem,seval,List.map_nil,List.length_nil];(with_reducible and_intros)<;>first|exact .dq|omega|skip
  refine aa.pure c7 ?_;simp only [go_sem,seval]
 have hgp:decide ((0:Int) < (g.length:Int))=true:=by
  have:g.length≠0:=fun h=>q2 (List.eq_nil_of_length_eq_zero h)
  simp;omega
 rw [if_pos ⟨rfl,q2⟩] at hP;obtain ⟨M,hM⟩:=aH (gW s.aW (IntKind.wrap .i64 (s.aW.last+1)) g);obtain ⟨e2,he2⟩:=aH (eT s.aW (IntKind.wrap .i64 (s.aW.last+1)) g);rw [<- hM,<- he2] at hP c6;simp only [go_sem,seval,aJ,hgp];(with_reducible and_intros)<;>first|exact .dq|omega|skip
 refine aa.pure c6 ?_
 by_cases q4:e2=0
 case neg =>
  have d:(e2==0)=false:=by simpa using q4
  rw [hE,hP];simp only [if_neg q4];simp only [go_sem,seval,bne,d]<;>simp [af.zero,pl]
 rw [hE,hP,q4];simp only [go_sem,seval];(with_reducible and_intros)<;>first|exact .dq|omega|skip
 refine aa.pure c7 ?_;simp only [go_sem,seval]
def sV (s:af):Int:=if bD s then (if s.phase=2 then (if s.day=1099511627776 then 1 else 0) else 15) else 14
def th (s:af):af:=if sV s=0 then { s with day:=s.day+1,phase:=0,book:=⟨s.book.next,[],s.book.qs⟩ } else .zero
theorem DI (s:af) (hs:s.small) (hr:s.cU):Abs.Spec Tryz.prog 116 [] [.agg s.cells] [] (.bI [.agg (th s).cells,.int .i64 (sV s)]):=by
 have c1:=gN s hs hr;have c2:=aR s hs;have hck:=fun h=>uT (s:=s) h
 obtain ⟨E,hE⟩:=aH (sV s);have hE0:=hE;simp only [sV] at hE;simp only [th,<- hE0];clear hE0;simp only [af.cells] at c1 c2 |-;refine bu 32 1 [.cell 2 42,.tmp 3] mixed Tryz.func116 ?_;simp only [go_sem,seval];(with_reducible and_intros)<;>first|exact .dq|omega|skip
 refine aa.pure c1 ?_;cases b1:bD s
 ·rw [b1] at hE;rw [hE];simp only [go_sem,seval]<;>simp [af.zero,pl]
 have hck:=hck b1;rw [b1,if_pos rfl] at hE;simp only [go_sem,seval];(with_reducible and_intros)<;>first|exact .dq|omega|skip
 by_cases b2:s.phase=2
 case neg =>
  have d:(s.phase==2)=false:=by simpa using b2
  rw [if_neg b2] at hE;rw [hE];simp only [go_sem,seval,bne,d]<;>simp [af.zero,pl]
 rw [if_pos b2] at hE;rw [b2] at c1 c2 |-;simp only [go_sem,seval];(with_reducible and_intros)<;>first|exact .dq|omega|skip
 by_cases b3:s.day=1099511627776
 ·rw [if_pos b3] at hE;rw [hE,b3];simp only [go_sem,seval]<;>simp [af.zero,pl]
 have d:(s.day==1099511627776)=false:=by simpa using b3
 have hw:IntKind.wrap .i64 (s.day+1)=s.day+1:=bn (by omega) (by omega);rw [if_neg b3] at hE;rw [hE];simp only [go_sem,seval,d];(with_reducible and_intros)<;>first|exact .dq|omega|skip
 refine aa.pure c2 ?_;simp only [go_sem,seval,hw]<;>simp
def aA.due (c:aA):aQ:=⟨c.who,c.cur,c.cm⟩
def qY:List aA->aq × List aA->aq × List aA
 | [],x=>x
 | c :: r,x=>qY r (l6 x.1 c.who 2,eL x.2 [c.who])
def oV (s:af) (n:Int):Int:=if bD s then (if within n 1 1000 then (if 1099511627776 < s.now+n then 1 else 0) else 3) else 14
def gP (s:af) (n:Int):af:=if oV s n=0 then { s with now:=s.now+n,aj:=(qY (nG (s.now+n) s.calls) (s.aj,s.calls)).1,calls:=(qY (nG (s.now+n) s.calls) (s.aj,s.calls)).2 } else .zero
def AH (s:af) (n:Int):List aQ:=if oV s n=0 then (nG (s.now+n) s.calls).map aA.due else []
theorem Uu {A:Type} (no:A->Int) (n:Int) (f:A->A) (l:List A):(xd no n f l).length<=l.length:=by
 induction l with
 | nil=>simp [xd]
 | cons x r ih=>simp only [xd];split<;>simp<;>omega
theorem SB {r:aq} (h:r.jt) (n p:Int):(l6 r n p).jt:=by
 unfold l6;split
 ·obtain ⟨h1,h2,h3⟩:=h;exact ⟨Nat.lt_of_le_of_lt (Uu _ _ _ _) h1,h2,h3⟩
 ·exact ⟨by simp [aq.none],by simp [aq.none],by simp [aq.none]⟩
theorem K9 (xs:List aA) (ws:List Int):(eL xs ws).length<=xs.length:=by
 have:=fF (f:=fun x:aA=>if lR ws x.who then [] else [x]) (m:=1) (fun p=>by split<;>simp) xs;simpa [eL] using this
theorem Jv (n:Int) (xs:List aA):(nG n xs).length<=xs.length:=by
 have:=fF (f:=fun x:aA=>if x.till<=n then [x] else []) (m:=1) (fun p=>by split<;>simp) xs;simpa [nG] using this
theorem aiQ (n0 n1 n2 n3 n4:Int) (r0 r1 r2 r3 r4 r5 r6 r7 r8 r9:List (List D)):(fM [0,1,2,3,4,5,6,8,9] (vl [(0,.agg [.int .i64 n0,.int .i64 n1,.int .i64 n2,.ref 0,.ref 1,.ref 2,.int .i64 n3,.ref 3,.ref 4,.int .i64 n4,.ref 5,.ref 6,.ref 7,.ref 8,.ref 9])] (so 0 [.own 3 r0,.own 12 r1,.own 4 r2,.own 7 r3,.own 4 r4,.own 4 r5,.own 3 r6,.own 4 r7,.own 5 r8,.own 7 r9]))).t 0=.agg [.int .i64 n0,.int .i64 n1,.int .i64 n2,.sl 3 r0,.sl 12 r1,.sl 4 r2,.int .i64 n3,.sl 7 r3,.sl 4 r4,.int .i64 n4,.sl 4 r5,.sl 3 r6,.ref 7,.sl 5 r8,.sl 7 r9]:=by
 kernel_rfl
theorem adK (d:D) (r0 r1 r2 r3 r4 r5 r6 r7 r8 r9:List (List D)) (r:Nat):(fM [0,1,2,3,4,5,6,8,9] (vl [(0,d)] (so 0 [.own 3 r0,.own 12 r1,.own 4 r2,.own 7 r3,.own 4 r4,.own 4 r5,.own 3 r6,.own 4 r7,.own 5 r8,.own 7 r9]))).o r=[D.undef,.undef,.undef,.undef,.undef,.undef,.undef,.own 4 r7].getD r .undef:=by
 rcases r with _ | _ | _ | _ | _ | _ | _ | _ | _ | _ | r<;>kernel_rfl
theorem MS (s:af) (hs:s.small):Abs.Spec Tryz.prog 52 [] [.agg s.cells] [.undef,.undef,.undef,.undef,.undef,.undef,.undef,.own 4 (s.calls.map aA.cells)] (.agg [.int .i64 s.now,.int .i64 s.day,.int .i64 s.phase,.sl 3 (s.aj.ms.map ak.cells),.sl 12 (s.aj.ns.map ay.cells),.sl 4 (s.aj.xs.map au.cells),.int .i64 s.book.next,.sl 7 (s.book.ts.map aL.cells),.sl 4 (s.book.qs.map aB.cells),
 .int .i64 s.aW.last,.sl 4 (s.aW.bs.map bC.cells),.sl 3 (pl s.ps),.ref 7,.sl 5 (s.bp.map bM.cells),.sl 7 (s.aN.map ck.cells)]):=by
 have h:=om s hs;simp only [LB,F5] at h;simp only [af.cells];simp only [af.cells] at h;exact Spec.frozen h [0,1,2,3,4,5,6,8,9] (aiQ ..) (fun r=>adK ..)
theorem Lj (s : af) (n : Int) (hs : s.small) (hr : s.cU) : Abs.Spec Tryz.prog 117 [] [.agg s.cells, .int .i64 n] [.own 4 ((gP s n).calls.map aA.cells), .own 3 ((AH s n).map aQ.cells)] (.bI [.agg [.int .i64 (gP s n).now, .int .i64 (gP s n).day, .int .i64 (gP s n).phase, .sl 3 ((gP s n).aj.ms.map ak.cells), .sl 12 ((gP s n).aj.ns.map ay.cells), .sl 4 ((gP s n).aj.xs.map au.cells), .int .i64 (gP s n).book.next, .sl 7 ((gP s n).book.ts.map aL.cells), .sl 4 ((gP s n).book.qs.map aB.cells),
        .int .i64 (gP s n).aW.last, .sl 4 ((gP s n).aW.bs.map bC.cells), .sl 3 (pl (gP s n).ps), .ref 0, .sl 5 ((gP s n).bp.map bM.cells), .sl 7 ((gP s n).aN.map ck.cells)], .ref 1, .int .i64 (oV s n)]) := by
  have c1 := gN s hs hr
  have c2 := MS s hs
  have c3 := fN n 1 1000
  have c4 := fun m => Lf m s.calls hs.calls
  have hck := fun h => uT (s := s) h
  obtain ⟨E, hE⟩ : ∃ E, E = oV s n := ⟨_, rfl⟩
  have hE0 := hE
  simp only [oV] at hE
  simp only [gP, AH, ← hE0]
  clear hE0
  simp only [af.cells] at c1 c2 ⊢
  refine bu 85 2 [.cell 4 42, .tmp 5, .tmp 6] mixed Tryz.func117 ?_
  simp only [go_sem, seval]
  (with_reducible and_intros)<;>first|exact .dq|omega|skip
  refine aa.pure c1 ?_
  cases b1 : bD s
  · rw [b1] at hE
    rw [hE]
    simp only [go_sem, seval] <;> simp [af.zero, pl]
  have hck := hck b1
  rw [b1, if_pos rfl] at hE
  simp only [go_sem, seval]
  (with_reducible and_intros)<;>first|exact .dq|omega|skip
  refine aa.pure c3 ?_
  cases b2 : within n 1 1000
  · rw [b2] at hE
    rw [hE]
    simp only [go_sem, seval] <;> simp [af.zero, pl]
  rw [b2, if_pos rfl] at hE
  simp only [within, Bool.and_eq_true, decide_eq_true_eq] at b2
  have hw : IntKind.wrap .i64 (s.now + n) = s.now + n := bn (by omega) (by omega)
  simp only [go_sem, seval, hw]
  (with_reducible and_intros)<;>first|exact .dq|omega|skip
  by_cases b3 : 1099511627776 < s.now + n
  · rw [if_pos b3] at hE
    have d : decide (1099511627776 < s.now + n) = true := by simpa using b3
    rw [hE]
    simp only [go_sem, seval, d] <;> simp [af.zero, pl]
  rw [if_neg b3] at hE
  have d : decide (1099511627776 < s.now + n) = false := by simpa using b3
  rw [hE]
  have c4 := c4 (s.now + n)
  have hll := Jv (s.now + n) s.calls
  have hcl := hs.calls
  obtain ⟨N, hN⟩ : ∃ N, N = s.now + n := ⟨_, rfl⟩
  have hw := hw.trans hN.symm
  rw [← hN] at d c4 hll ⊢
  obtain ⟨l, hl⟩ : ∃ l, l = nG N s.calls := ⟨_, rfl⟩
  rw [← hl] at c4 hll ⊢
  simp only [go_sem, seval, d]
  (with_reducible and_intros)<;>first|exact .dq|omega|skip
  refine aa.gen [] [] false (by simp) ?_
  simp only [go_sem, seval]
  refine aU.intro c2 ?_
  simp only [go_sem, seval, hw]
  (with_reducible and_intros)<;>first|exact .dq|omega|skip
  refine aa.pure c4 ?_
  clear c1 c2 c3 c4 hl hN
  simp only [go_sem, seval, List.length_map]
  (with_reducible and_intros)<;>first|exact .dq|omega|skip
  obtain ⟨R, hR⟩ : ∃ R, R = qY l (s.aj, s.calls) := ⟨_, rfl⟩
  rw [← hR]
  refine aC.walk (S := aq × List aA) l.length [4, 7, 8] [80] (fun i _ => [(11, .int .i64 i), (10, .ref 944)])
    (fun i x => [(471, .own 4 (x.2.map aA.cells)), (128, .box [.int .i64 N, .int .i64 s.day, .int .i64 s.phase, .sl 3 (x.1.ms.map ak.cells), .sl 12 (x.1.ns.map ay.cells), .sl 4 (x.1.xs.map au.cells), .int .i64 s.book.next, .sl 7 (s.book.ts.map aL.cells), .sl 4 (s.book.qs.map aB.cells),
      .int .i64 s.aW.last, .sl 4 (s.aW.bs.map bC.cells), .sl 3 (pl s.ps), .ref 471, .sl 5 (s.bp.map bM.cells), .sl 7 (s.aN.map ck.cells)]), (944, .own 3 (((l.take i).map aA.due).map aQ.cells))])
    (fun i x => qY (l.drop i) x = R ∧ x.1.jt ∧ x.2.length < 2 ^ 30) (s.aj, s.calls) ⟨hR.symm, hs.aj, hs.calls⟩ ?_ ?_ ?_
  · simp only [go_sem, seval] <;> simp
  · intro i x hi hdi hwi hI
    obtain ⟨ro, cs⟩ := x
    obtain ⟨hI, ht, hcs⟩ := hI
    dsimp only at hI ht hcs ⊢
    have hm := aG (c := aA.cells) l hi
    have hli : (i : Int) < (l.length : Int) := by omega
    have hlt : ((l.take i).map aA.due).length = i := by simp; omega
    have hs1 : (l.take (i + 1)).map aA.due = (l.take i).map aA.due ++ [aA.due l[i]] := by
      rw [List.take_add_one, List.getElem?_eq_getElem hi, List.map_append]; rfl
    rw [dN hi] at hI
    simp only [qY] at hI
    obtain ⟨x, hx⟩ : ∃ x, x = l[i] := ⟨_, rfl⟩
    rw [← hx] at hm hs1 hI
    have cP := CP ro x.who 2 ht
    have cW := vp cs [x.who] hcs (by simp)
    have ht2 := SB ht x.who 2
    have hcs2 := K9 cs [x.who]
    obtain ⟨T, hT⟩ : ∃ T, T = (l.take i).map aA.due := ⟨_, rfl⟩
    rw [← hT] at hs1 hlt ⊢
    simp only [aA.due] at hs1
    simp only [aq.cells] at cP
    simp only [ints, List.map_cons, List.map_nil] at cW
    obtain ⟨Q, hQ⟩ : ∃ Q, Q = l6 ro x.who 2 := ⟨_, rfl⟩
    obtain ⟨W, hW⟩ : ∃ W, W = eL cs [x.who] := ⟨_, rfl⟩
    rw [← hQ] at hI cP ht2
    rw [← hW] at hI cW hcs2
    simp only [go_sem, seval, List.length_map, hdi, hm, hlt]
    (with_reducible and_intros)<;>first|exact .dq|omega|skip
    refine aa.pure cP ?_
    simp only [go_sem, seval, List.length_map, hdi, hm, hlt]
    (with_reducible and_intros)<;>first|exact .dq|omega|skip
    refine aa.gen [] [] true (by simp) ?_
    simp only [go_sem, seval]
    refine aU.intro cW ?_
    simp only [go_sem, seval, hwi]
    (with_reducible and_intros)<;>first|exact .dq|omega|skip
    · intro r hr' d hd
      obtain ⟨y, _, rfl⟩ := List.mem_map.1 hr'
      simp only [aA.cells, List.mem_cons, List.not_mem_nil, or_false] at hd
      rcases hd with rfl | rfl | rfl | rfl <;> trivial
    refine ah.step (Q, W) hi ⟨hI, ht2, by dsimp only; omega⟩ ?_
    simp only [go_sem, seval, hs1] <;> simp
  intro x hdx hI
  obtain ⟨ro, cs⟩ := x
  have hI := hI.1
  rw [List.drop_length] at hI
  have hI : (ro, cs) = R := hI
  subst hI
  simp only [go_sem, seval, List.length_map, hdx, List.take_length]
theorem JR (s:af) (n:Int) (hs:s.small) (hr:s.cU):Abs.Spec Tryz.prog 117 [] [.agg s.cells,.int .i64 n] [] (.bI [.agg (gP s n).cells,.sl 3 ((AH s n).map aQ.cells),.int .i64 (oV s n)]):=by
 refine Spec.frozen (Lj s n hs hr) [0,1] rfl ?_;intro r;rcases r with _ | _ | r<;>rfl
def Ly (s:af):Int:=min (s.now+3) 1099511627776
def oM (s:af) (w:Int):Nat->Nat->List aA × List aQ->(List aA × List aQ) × Int
 | 0,_,x=>(x,0)
 | m+1,c,x=>if Rt s w c=0 then oM s w m (c+1) (DM x.1 ⟨w,c,Hg s w c⟩ (Ly s),x.2++nD w c (Hg s w c)) else (x,Rt s w c)
def rV (s:af):List Int->List aA × List aQ->(List aA × List aQ) × Int
 | [],x=>(x,0)
 | w :: r,x=>if (oM s w 3 0 x).2=0 then rV s r (oM s w 3 0 x).1 else oM s w 3 0 x
def Sb (s:af):(List aA × List aQ) × Int:=rV s (gB s.aj [1]) (s.calls,[])
def iT (s:af):Int:=if bD s then (if s.phase=1 then (Sb s).2 else 15) else 14
def jz (s:af):af:=if iT s=0 then { s with phase:=2,calls:=(Sb s).1.1 } else .zero
def nP (s:af):List aQ:=if iT s=0 then (Sb s).1.2 else []
theorem UO (xs:List aA) (d:aQ) (a:Int):(DM xs d a).length<=48:=by
 unfold DM;split
 ·exact Mk _ _ _
 ·simp
theorem B4 (s:af) (hs:s.small) (hr:s.cU) (hlb:s.aW.bs.length < 2 ^ 29) (hlp:s.ps.length < 2 ^ 29) :
  Abs.Spec Tryz.prog 115 [] [.agg s.cells] [.own 3 ((nP s).map aQ.cells)] (.bI [.agg (jz s).cells,.ref 0,.int .i64 (iT s)]):=by
 have c1:=gN s hs hr;have c2:=aR s hs;have c3:=xy s.aj [1] hs.aj (by simp);have hfit:s.fit:=⟨hs.aj.small,hs.book,hs.aW,hs.ps⟩
 have cS:=fun w c=>qD s w c hfit hr hlb hlp
 have cA:=fun xs d (h:xs.length < 2 ^ 30)=>MH xs d (Ly s) h
 have htl:=yu s.aj [1];have hml:=hs.aj.1;have hck:=fun h=>uT (s:=s) h
 obtain ⟨E,hE⟩:=aH (iT s);have hE0:=hE;simp only [iT] at hE;simp only [jz,nP,<- hE0];clear hE0;obtain ⟨R,hR⟩:=aH (Sb s);rw [<- hR] at hE |-;simp only [Sb] at hR;obtain ⟨ws,hws⟩:=aH (gB s.aj [1]);rw [<- hws] at c3 hR htl;clear hws;simp only [af.cells] at c1 c2 cS |-;rw [show ints [1]=[[.int .i64 1]] from rfl] at c3;simp only [aq.cells] at c3;simp only [aQ.cells] at cA;refine bu 82 1 [.cell 2 42,.tmp 3,.tmp 4] mixed Tryz.func115 ?_;simp only [go_sem,seval];(with_reducible and_intros)<;>first|exact .dq|omega|skip
 refine aa.pure c1 ?_;cases b1:bD s
 ·rw [b1] at hE;rw [hE];simp only [go_sem,seval]<;>simp [af.zero,pl]
 have hck:=hck b1;have hA:Ly s=min (s.now+3) 1099511627776:=rfl;have hw:IntKind.wrap .i64 (s.now+3)=s.now+3:=bn (by omega) (by omega);rw [b1,if_pos rfl] at hE;simp only [go_sem,seval];(with_reducible and_intros)<;>first|exact .dq|omega|skip
 by_cases b2:s.phase=1
 case neg =>
  have d:(s.phase==1)=false:=by simpa using b2
  rw [if_neg b2] at hE;rw [hE];simp only [go_sem,seval,bne,d]<;>simp [af.zero,pl]
 rw [if_pos b2] at hE;obtain ⟨ph,hph⟩:=aH (s.phase);rw [<- hph] at b2 c1 c2 cS |-;have dph:(ph==1)=true:=by simpa using b2
 clear hph;simp only [go_sem,seval,bne,dph];(with_reducible and_intros)<;>first|exact .dq|omega|skip
 refine aa.pure c2 ?_;simp only [go_sem,seval];(with_reducible and_intros)<;>first|exact .dq|omega|skip
 refine aa.gen [432] [] false (by simp) ?_;simp only [go_sem,seval];refine aU.intro c3 ?_;clear c1 c2 c3;simp only [go_sem,seval];(with_reducible and_intros)<;>first|exact .dq|omega|skip
 refine aC.walk (S:=List aA × List aQ) ws.length [1,2,5,7] [32,48] (fun i _=>[(8,.int .i64 i),(6,.ref 1248)])
  (fun i x=>[(96,.box [.int .i64 s.now,.int .i64 s.day,.int .i64 ph,.sl 3 (s.aj.ms.map ak.cells),.sl 12 (s.aj.ns.map ay.cells),.sl 4 (s.aj.xs.map au.cells),.int .i64 s.book.next,.sl 7 (s.book.ts.map aL.cells),.sl 4 (s.book.qs.map aB.cells),
   .int .i64 s.aW.last,.sl 4 (s.aW.bs.map bC.cells),.sl 3 (pl s.ps),.sl 4 (x.1.map aA.cells),.sl 5 (s.bp.map bM.cells),.sl 7 (s.aN.map ck.cells)]),(1248,.own 3 (x.2.map aQ.cells))])
  (fun i x=>rV s (ws.drop i) x=R/\x.1.length < 2 ^ 30/\x.2.length<=3*i) (s.calls,[]) ⟨hR.symm,hs.calls,Nat.le_refl _⟩ ?_ ?_ ?_
 ·simp only [go_sem,seval]<;>simp
 ·intro i x hi hdi hwi hI;obtain ⟨cs,ds⟩:=x;obtain ⟨hI,hcl,hdl⟩:=hI;dsimp only at hI hcl hdl |-;rw [dN hi] at hI;simp only [rV] at hI;have hmw:=ints_at ws hi;have hli:(i:Int) < (ws.length:Int):=by omega
  have cSw:=cS ws[i];obtain ⟨w,hw1⟩:=aH (ws[i]);rw [<- hw1] at hI hmw cSw;obtain ⟨Q,hQ⟩:=aH (oM s w 3 0 (cs,ds));rw [<- hQ] at hI;clear cS hw1;simp only [go_sem,seval,av,hdi];(with_reducible and_intros)<;>first|exact .dq|omega|skip
  refine aC.walk (S:=List aA × List aQ) 3 [1,2,5,7,8] [32,48] (fun c _=>[(9,.int .i64 c),(6,.ref 1248)])
   (fun c x=>[(96,.box [.int .i64 s.now,.int .i64 s.day,.int .i64 ph,.sl 3 (s.aj.ms.map ak.cells),.sl 12 (s.aj.ns.map ay.cells),.sl 4 (s.aj.xs.map au.cells),.int .i64 s.book.next,.sl 7 (s.book.ts.map aL.cells),.sl 4 (s.book.qs.map aB.cells),
    .int .i64 s.aW.last,.sl 4 (s.aW.bs.map bC.cells),.sl 3 (pl s.ps),.sl 4 (x.1.map aA.cells),.sl 5 (s.bp.map bM.cells),.sl 7 (s.aN.map ck.cells)]),(1248,.own 3 (x.2.map aQ.cells))])
   (fun c x=>oM s w (3-c) c x=Q/\x.1.length < 2 ^ 30/\x.2.length<=3*i+c) (cs,ds) ⟨hQ.symm,hcl,hdl⟩ ?_ ?_ ?_
  ·simp only [go_sem,seval]<;>simp
  ·intro c x hc hdc hwc hJ;obtain ⟨cs,ds⟩:=x;obtain ⟨hJ,hcl,hdl⟩:=hJ;dsimp only at hJ hcl hdl |-;have hdc:decide ((c:Int) < 3)=true:=hdc;obtain ⟨m,hm⟩:∃ m,3-c=m+1:=⟨3-c-1,by omega⟩
   have hm2:3-(c+1)=m:=by omega
   rw [hm] at hJ;simp only [oM] at hJ;have cSc:=cSw c;have cAc:=cA cs ⟨w,c,Hg s w c⟩ hcl;have hal:=UO cs ⟨w,c,Hg s w c⟩ (Ly s);dsimp only at cAc;obtain ⟨n,hn⟩:=aH (Hg s w c);obtain ⟨e,he⟩:=aH (Rt s w c);rw [<- hn] at cSc cAc hJ hal;rw [<- he] at cSc hJ;rw [hA] at cAc hJ hal;clear cA cSw hn he;simp only [go_sem,seval,hdc,av,hmw,hli];(with_reducible and_intros)<;>first|exact .dq|omega|skip
   refine aa.pure cSc ?_
   by_cases q1:e=0
   case neg =>
    have d:(e==0)=false:=by simpa using q1
    rw [if_neg q1] at hJ;rw [<- hJ] at hI;dsimp only at hI;rw [if_neg q1] at hI;rw [<- hI] at hE;rw [hE];simp only [if_neg q1];simp only [go_sem,seval,bne,d]
    all_goals simp [af.zero,pl]
   rw [if_pos q1] at hJ;rw [q1];simp only [go_sem,seval,av,hmw,hli,hw];(with_reducible and_intros)<;>first|exact .dq|omega|skip
   refine aa.pure cAc ?_;obtain ⟨A,hA1⟩:=aH (DM cs ⟨w,c,n⟩ (min (s.now+3) 1099511627776));rw [<- hA1] at hJ hal |-
   by_cases q2:n=0
   ·have hJ:oM s w m (c+1) (A,ds)=Q:=by rw [<- hJ];simp [nD,q2]
    rw [q2];simp only [go_sem,seval,bne,hwc];(with_reducible and_intros)<;>first|exact .dq|omega|skip
    refine ah.step (A,ds) hc ⟨by rw [hm2];exact hJ,by dsimp only;omega,by dsimp only;omega⟩ ?_;simp only [go_sem,seval]<;>simp
   ·have d:(n==0)=false:=by simpa using q2
    have hJ:oM s w m (c+1) (A,ds++[⟨w,c,n⟩])=Q:=by rw [<- hJ];simp [nD,q2]
    simp only [go_sem,seval,bne,d,hwc,aJ];(with_reducible and_intros)<;>first|exact .dq|omega|skip
    refine ah.step (A,ds++[⟨w,c,n⟩]) hc ⟨by rw [hm2];exact hJ,by dsimp only;omega,by simp;omega⟩ ?_;simp only [go_sem,seval]<;>simp
  intro x _ hJ;obtain ⟨cs,ds⟩:=x;obtain ⟨hJ,hcl,hdl⟩:=hJ;have hJ:((cs,ds),(0:Int))=Q:=hJ;rw [<- hJ] at hI;dsimp only at hI hcl hdl;rw [if_pos rfl] at hI;dsimp only
  try refine fu.id ?_
  simp only [go_sem,seval,hwi];(with_reducible and_intros)<;>first|exact .dq|omega|skip
  refine ah.step (cs,ds) hi ⟨hI,hcl,by dsimp only;omega⟩ ?_;simp only [go_sem,seval]<;>simp
 intro x hdx hI;obtain ⟨cs,ds⟩:=x;have hI:=hI.1;rw [List.drop_length] at hI;have hI:((cs,ds),(0:Int))=R:=hI;subst hI;rw [hE];dsimp only;simp only [go_sem,seval,av,hdx]
theorem At (s:af) (hs:s.small) (hr:s.cU) (hlb:s.aW.bs.length < 2 ^ 29) (hlp:s.ps.length < 2 ^ 29):Abs.Spec Tryz.prog 115 [] [.agg s.cells] [] (.bI [.agg (jz s).cells,.sl 3 ((nP s).map aQ.cells),.int .i64 (iT s)]):=by
 refine Spec.frozen (B4 s hs hr hlb hlp) [0] rfl ?_;intro r;rcases r with _ | r<;>rfl
structure aZ where
 client:Int
 seq:Int
 kind:Int
 who:Int
 other:Int
 no:Int
 inst:Int
 cur:Int
 bg:Int
 aX:Int
 cm:Int
 s0:Int
 s1:Int
 s2:Int
 s3:Int
 s4:Int
 s5:Int
deriving DecidableEq
@[reducible] def aZ.cells (x:aZ):List D:=[.int .i64 x.client,.int .i64 x.seq,.int .i64 x.kind,.int .i64 x.who,.int .i64 x.other,.int .i64 x.no,.int .i64 x.inst,.int .i64 x.cur,.int .i64 x.bg,.int .i64 x.aX,.int .i64 x.cm,.int .i64 x.s0,.int .i64 x.s1,.int .i64 x.s2,.int .i64 x.s3,.int .i64 x.s4,.int .i64 x.s5]
theorem gC (a b c:Int):Abs.Spec Tryz.prog 108 [] [.int .i64 a,.int .i64 b,.int .i64 c] [] (.bool (within a b c)):=by
 refine bu 15 3 [.tmp 6] mixed Tryz.func108 ?_;simp only [go_sem,seval]
 repeat' with_reducible first|apply And.intro|exact .dq|refine aa.pure (by assumption) ?_|refine .aT (fun h=>?_) fun h=>?_|refine .aO (fun h=>?_) fun h=>?_|refine .aS (fun h=>?_) fun h=>?_|refine .split (fun h=>?_) fun h=>?_|refine .id ?_|refine ah.next (by omega) ?_ ?_|exact trivial|simp only [*,go_sem,seval]
 all_goals (simp only [within];simp<;>omega)
theorem gM (k w c:Int):Abs.Spec Tryz.prog 112 [] [.int .i64 k,.int .i64 w,.int .i64 c] [] (.agg [.int .i64 k,.int .i64 w,.int .i64 c]):=by
 refine bu 11 3 [.cell 6 65] mixed Tryz.func112 ?_;simp only [go_sem,seval]
theorem bK (e:Int):Abs.Spec Tryz.prog 109 [] [.int .i64 e] [] (.agg [.int .i64 e,.int .i64 0,.int .i64 0,.nil,.nil]):=by
 refine bu 5 1 [.cell 2 91] mixed Tryz.func109 ?_;simp only [go_sem,seval]
def FX (r:aq) (w:Int):Int:=if dQ r w then (if (ew r w).state=1 then 0 else 14) else 10
theorem rG (s:af) (w:Int) (hl:s.aj.small):Abs.Spec Tryz.prog 181 [] [.agg s.cells,.int .i64 w] [] (.int .i64 (FX s.aj w)):=by
 have h1:=ct s.aj w hl;simp only [af.cells] at h1 |-;simp only [aq.cells] at h1;unfold FX;obtain ⟨m,hm⟩:=aH (ew s.aj w);rw [<- hm] at h1 |-;refine bu 19 2 [.tmp 4] mixed Tryz.func181 ?_;simp only [go_sem,seval];(with_reducible and_intros)<;>first|exact .dq|omega|skip
 refine aa.pure h1 ?_;cases q:dQ s.aj w
 ·simp only [go_sem,seval]<;>simp
 simp only [go_sem,seval,bne];(with_reducible and_intros)<;>first|exact .dq|omega|skip
 by_cases q2:m.state=1
 ·have d:(m.state==1)=true:=by simpa using q2
  simp only [go_sem,seval,d,if_pos q2]<;>simp
 ·have d:(m.state==1)=false:=by simpa using q2
  simp only [go_sem,seval,d,if_neg q2]<;>simp
def Sw (s:af) (w c:Int):Int:=if Rt s w c=0 then (if decide (0 < Hg s w c)||decide (0<=dc w c s.calls) then 17 else 0) else Rt s w c
theorem p7 (s:af) (w c:Int) (hs:s.small) (hr:s.cU) (hlb:s.aW.bs.length < 2 ^ 29) (hlp:s.ps.length < 2 ^ 29):Abs.Spec Tryz.prog 183 [] [.agg s.cells,.int .i64 w,.int .i64 c] [] (.int .i64 (Sw s w c)):=by
 have hfit:s.fit:=⟨hs.aj.small,hs.book,hs.aW,hs.ps⟩
 have h1:=qD s w c hfit hr hlb hlp;have h2:=lQ w c s.calls (by have:=hs.calls;omega);simp only [af.cells] at h1 |-;unfold Sw;obtain ⟨e,he⟩:=aH (Rt s w c);obtain ⟨n,hn⟩:=aH (Hg s w c);rw [<- he,<- hn] at h1;rw [<- he,<- hn];refine bu 29 3 [.tmp 6] mixed Tryz.func183 ?_;simp only [go_sem,seval];(with_reducible and_intros)<;>first|exact .dq|omega|skip
 refine aa.pure h1 ?_
 by_cases q:e=0
 case neg =>
  have d:(e==0)=false:=by simpa using q
  simp only [go_sem,seval,bne,d,if_neg q]
 rw [q];simp only [go_sem,seval];(with_reducible and_intros)<;>first|exact .dq|omega|skip
 cases q2:decide (0 < n)
 ·simp only [go_sem,seval];(with_reducible and_intros)<;>first|exact .dq|omega|skip
  refine aa.pure h2 ?_;cases q3:decide (0<=dc w c s.calls)
  ·simp only [go_sem,seval,q3]<;>simp
  ·simp only [go_sem,seval,q3]<;>simp
 ·simp only [go_sem,seval]<;>simp
def gL (n:Int):List ck->Int->Int
 | [],_=>-1
 | x :: r,i=>if x.client==n then i else gL n r (i+1)
theorem vc (s:af) (n:Int) (hl:s.aN.length < 2 ^ 40):Abs.Spec Tryz.prog 53 [] [.agg s.cells,.int .i64 n] [] (.int .i64 (gL n s.aN 0)):=by
 simp only [af.cells];refine bu 22 2 [.tmp 4] mixed Tryz.func53 ?_;simp only [go_sem,seval,aJ];refine aC.walk (S:=Unit) s.aN.length [1,2] [48] (fun i _=>[(5,.int .i64 i)]) (fun _ _=>[]) (fun i _=>gL n (s.aN.drop i) i=gL n s.aN 0) () rfl ?_ ?_ ?_
 ·simp only [go_sem,seval]
  try simp
 ·intro i _ hi hdi hwi hI;have hm:=aG (c:=ck.cells) s.aN hi;have hli:(i:Int) < (s.aN.length:Int):=by omega
  obtain ⟨x,hx⟩:=aH (s.aN[i]);rw [dN hi,<- hx] at hI;rw [<- hx] at hm;simp only [gL] at hI;simp only [ck.cells] at hm;simp only [go_sem,seval,aJ,hdi,hm];(with_reducible and_intros)<;>first|exact .dq|omega|skip
  cases q:x.client==n
  ·rw [q] at hI;simp only [go_sem,seval,hwi];refine ah.step () hi (by simpa using hI) ?_;simp only [go_sem,seval]
  ·rw [q,if_pos rfl] at hI;rw [<- hI];simp only [go_sem,seval]
 ·intro _ hdx hI;rw [List.drop_length] at hI;rw [<- hI];simp only [go_sem,seval,aJ,hdx,gL]
def rR (s:ByteArray) (i:Nat):Int:=((s[i]?).map (fun x=>(x.toNat:Int))).getD 0
def UZ (s:ByteArray) (b:Int):Nat->Nat->Bool
 | 0,_=>false
 | m+1,i=>rR s i==b||UZ s b m (i+1)
def hasB (s:ByteArray) (b:Int):Bool:=UZ s b s.size 0
theorem HX (s:ByteArray) (b:Int) (hl:s.size < 2 ^ 60):Abs.Spec Tryz.prog 178 [] [.str s,.int .u8 b] [] (.bool (hasB s b)):=by
 refine bu 17 2 [.tmp 4] mixed Tryz.func178 ?_;simp only [go_sem,seval];refine aC.walk (S:=Unit) s.size [0,1] [] (fun i _=>[(5,.int .i64 i)]) (fun _ _=>[]) (fun i _=>UZ s b (s.size-i) i=hasB s b) () rfl ?_ ?_ ?_
 ·simp only [go_sem,seval]
  try simp
 ·intro i _ hi hdi hwi hI;obtain ⟨m,hm⟩:∃ m,s.size-i=m+1:=⟨s.size-i-1,by omega⟩
  have hm2:s.size-(i+1)=m:=by omega
  rw [hm] at hI;simp only [UZ] at hI;have hli:(i:Int) < (s.size:Int):=by omega
  have hb:((s[i]?).map (fun x=>(x.toNat:Int))).getD 0=rR s i:=rfl;simp only [go_sem,seval,hdi,Int.toNat_natCast,hb];(with_reducible and_intros)<;>first|exact .dq|omega|skip
  cases q:rR s i==b
  ·rw [q,Bool.false_or] at hI;simp only [go_sem,seval,hwi];refine ah.step () hi (by rw [hm2];exact hI) ?_;simp only [go_sem,seval]
  ·rw [q,Bool.true_or] at hI;rw [<- hI];simp only [go_sem,seval]
 ·intro _ hdx hI;rw [Nat.sub_self] at hI;rw [<- hI];simp only [go_sem,seval,hdx,UZ]
def Ph:List ByteArray:=[⟨#[]⟩,⟨#[119,97]⟩,⟨#[105,99,113,97,115]⟩,⟨#[110,99,112,97]⟩,⟨#[119,99,97]⟩,⟨#[119,99,97]⟩,⟨#[119,110,113]⟩,⟨#[119,110,113]⟩,⟨#[119,99,97]⟩,⟨#[99,97]⟩,⟨#[119,111,105,113,112]⟩,⟨#[110]⟩,⟨#[110,113,112]⟩,⟨#[105,112]⟩,⟨#[]⟩,⟨#[]⟩,⟨#[]⟩,⟨#[97]⟩,⟨#[119,105,111,113,112]⟩,⟨#[119]⟩,⟨#[]⟩,⟨#[110,119,99]⟩,⟨#[119,105]⟩]
def eD (k:Int):ByteArray:=Ph.getD k.toNat ⟨#[]⟩
theorem DR (k:Int) (h:1<=k/\k<=22):Abs.Spec Tryz.prog 177 [] [.int .i64 k] [] (.str (eD k)):=by
 have hk:k=1\/k=2\/k=3\/k=4\/k=5\/k=6\/k=7\/k=8\/k=9\/k=10\/k=11\/k=12\/k=13\/k=14\/k=15\/k=16\/k=17\/k=18\/k=19\/k=20\/k=21\/k=22:=by omega
 clear h;rcases hk with rfl | rfl | rfl | rfl | rfl | rfl | rfl | rfl | rfl | rfl | rfl | rfl | rfl | rfl | rfl | rfl | rfl | rfl | rfl | rfl | rfl | rfl
 ·refine bu 17 1 [.tmp 2] mixed Tryz.func177 ?_;simp only [go_sem,seval];exact (rfl:(⟨#[119,97]⟩:ByteArray)=eD 1)
 ·refine bu 17 1 [.tmp 2] mixed Tryz.func177 ?_;simp only [go_sem,seval];exact (rfl:(⟨#[105,99,113,97,115]⟩:ByteArray)=eD 2)
 ·refine bu 17 1 [.tmp 2] mixed Tryz.func177 ?_;simp only [go_sem,seval];exact (rfl:(⟨#[110,99,112,97]⟩:ByteArray)=eD 3)
 ·refine bu 17 1 [.tmp 2] mixed Tryz.func177 ?_;simp only [go_sem,seval];exact (rfl:(⟨#[119,99,97]⟩:ByteArray)=eD 4)
 ·refine bu 17 1 [.tmp 2] mixed Tryz.func177 ?_;simp only [go_sem,seval];exact (rfl:(⟨#[119,99,97]⟩:ByteArray)=eD 5)
 ·refine bu 17 1 [.tmp 2] mixed Tryz.func177 ?_;simp only [go_sem,seval];exact (rfl:(⟨#[119,110,113]⟩:ByteArray)=eD 6)
 ·refine bu 17 1 [.tmp 2] mixed Tryz.func177 ?_;simp only [go_sem,seval];exact (rfl:(⟨#[119,110,113]⟩:ByteArray)=eD 7)
 ·refine bu 17 1 [.tmp 2] mixed Tryz.func177 ?_;simp only [go_sem,seval];exact (rfl:(⟨#[119,99,97]⟩:ByteArray)=eD 8)
 ·refine bu 17 1 [.tmp 2] mixed Tryz.func177 ?_;simp only [go_sem,seval];exact (rfl:(⟨#[99,97]⟩:ByteArray)=eD 9)
 ·refine bu 17 1 [.tmp 2] mixed Tryz.func177 ?_;simp only [go_sem,seval];exact (rfl:(⟨#[119,111,105,113,112]⟩:ByteArray)=eD 10)
 ·refine bu 17 1 [.tmp 2] mixed Tryz.func177 ?_;simp only [go_sem,seval];exact (rfl:(⟨#[110]⟩:ByteArray)=eD 11)
 ·refine bu 17 1 [.tmp 2] mixed Tryz.func177 ?_;simp only [go_sem,seval];exact (rfl:(⟨#[110,113,112]⟩:ByteArray)=eD 12)
 ·refine bu 17 1 [.tmp 2] mixed Tryz.func177 ?_;simp only [go_sem,seval];exact (rfl:(⟨#[105,112]⟩:ByteArray)=eD 13)
 ·refine bu 17 1 [.tmp 2] mixed Tryz.func177 ?_;simp only [go_sem,seval];exact (rfl:(⟨#[]⟩:ByteArray)=eD 14)
 ·refine bu 17 1 [.tmp 2] mixed Tryz.func177 ?_;simp only [go_sem,seval];exact (rfl:(⟨#[]⟩:ByteArray)=eD 15)
 ·refine bu 17 1 [.tmp 2] mixed Tryz.func177 ?_;simp only [go_sem,seval];exact (rfl:(⟨#[]⟩:ByteArray)=eD 16)
 ·refine bu 17 1 [.tmp 2] mixed Tryz.func177 ?_;simp only [go_sem,seval];exact (rfl:(⟨#[97]⟩:ByteArray)=eD 17)
 ·refine bu 17 1 [.tmp 2] mixed Tryz.func177 ?_;simp only [go_sem,seval];exact (rfl:(⟨#[119,105,111,113,112]⟩:ByteArray)=eD 18)
 ·refine bu 17 1 [.tmp 2] mixed Tryz.func177 ?_;simp only [go_sem,seval];exact (rfl:(⟨#[119]⟩:ByteArray)=eD 19)
 ·refine bu 17 1 [.tmp 2] mixed Tryz.func177 ?_;simp only [go_sem,seval];exact (rfl:(⟨#[]⟩:ByteArray)=eD 20)
 ·refine bu 17 1 [.tmp 2] mixed Tryz.func177 ?_;simp only [go_sem,seval];exact (rfl:(⟨#[110,119,99]⟩:ByteArray)=eD 21)
 ·refine bu 17 1 [.tmp 2] mixed Tryz.func177 ?_;simp only [go_sem,seval];exact (rfl:(⟨#[119,105]⟩:ByteArray)=eD 22)
def KN (c:aZ) (b:Int):Int:=if b=119 then c.who else if b=111 then c.other else if b=110 then c.no else if b=105 then c.inst else if b=99 then c.cur else if b=113 then c.bg else if b=112 then c.aX else c.cm
theorem DA (c:aZ) (b:Int):Abs.Spec Tryz.prog 179 [] [.agg c.cells,.int .u8 b] [] (.int .i64 (KN c b)):=by
 simp only [aZ.cells];unfold KN;refine bu 36 2 [.tmp 4] mixed Tryz.func179 ?_;simp only [go_sem,seval];(with_reducible and_intros)<;>first|exact .dq|omega|skip
 by_cases q0:b=119
 ·have d:(b==119)=true:=by simpa using q0
  simp only [go_sem,seval,d,if_pos q0]
 have d0:(b==119)=false:=by simpa using q0
 simp only [go_sem,seval,d0]
 by_cases q1:b=111
 ·have d:(b==111)=true:=by simpa using q1
  simp only [go_sem,seval,d,if_pos q1,if_neg q0]
 have d1:(b==111)=false:=by simpa using q1
 simp only [go_sem,seval,d1]
 by_cases q2:b=110
 ·have d:(b==110)=true:=by simpa using q2
  simp only [go_sem,seval,d,if_pos q2,if_neg q0,if_neg q1]
 have d2:(b==110)=false:=by simpa using q2
 simp only [go_sem,seval,d2]
 by_cases q3:b=105
 ·have d:(b==105)=true:=by simpa using q3
  simp only [go_sem,seval,d,if_pos q3,if_neg q0,if_neg q1,if_neg q2]
 have d3:(b==105)=false:=by simpa using q3
 simp only [go_sem,seval,d3]
 by_cases q4:b=99
 ·have d:(b==99)=true:=by simpa using q4
  simp only [go_sem,seval,d,if_pos q4,if_neg q0,if_neg q1,if_neg q2,if_neg q3]
 have d4:(b==99)=false:=by simpa using q4
 simp only [go_sem,seval,d4]
 by_cases q5:b=113
 ·have d:(b==113)=true:=by simpa using q5
  simp only [go_sem,seval,d,if_pos q5,if_neg q0,if_neg q1,if_neg q2,if_neg q3,if_neg q4]
 have d5:(b==113)=false:=by simpa using q5
 simp only [go_sem,seval,d5]
 by_cases q6:b=112
 ·have d:(b==112)=true:=by simpa using q6
  simp only [go_sem,seval,d,if_pos q6,if_neg q0,if_neg q1,if_neg q2,if_neg q3,if_neg q4,if_neg q5]
 have d6:(b==112)=false:=by simpa using q6
 simp only [go_sem,seval,d6,if_neg q0,if_neg q1,if_neg q2,if_neg q3,if_neg q4,if_neg q5,if_neg q6]
def Dr (c:aZ) (l a:ByteArray):Nat->Nat->Int
 | 0,_=>0
 | m+1,i=>if !hasB l (rR a i)&&!(KN c (rR a i)==0) then 6 else Dr c l a m (i+1)
def yC (c:aZ):Nat->Int
 | 0=>c.s0
 | 1=>c.s1
 | 2=>c.s2
 | 3=>c.s3
 | 4=>c.s4
 | _=>c.s5
def Mv (c:aZ) (l:ByteArray):Nat->Nat->Int
 | 0,_=>0
 | m+1,i=>if !hasB l 115&&!(yC c i==0) then 6 else Mv c l m (i+1)
def VR:ByteArray:=⟨#[119,111,110,105,99,113,112,97]⟩
def zK (c:aZ):Int:=if within c.kind 1 22 then (if Dr c (eD c.kind) VR 8 0=0 then (if Mv c (eD c.kind) 6 0=0 then (if within c.client 1 8 then 0 else 6) else 6) else 6) else 21
theorem Mn (c:aZ) (l a:ByteArray):∀ m i,Dr c l a m i=0\/Dr c l a m i=6
 | 0,_=>.inl rfl
 | m+1,i=>by simp only [Dr];split;exact .inr rfl;exact Mn c l a m (i+1)
theorem Lx (k:Int):(eD k).size < 2 ^ 60:=by
 unfold eD;generalize k.toNat=n;rcases (by omega:n < 23\/23<=n) with h | h
 ·have:∀ n < 23,(Ph.getD n ⟨#[]⟩).size < 8:=by decide
  exact Nat.lt_trans (this n h) (by decide)
 ·rw [List.getD_eq_getElem?_getD,List.getElem?_eq_none (by simpa [Ph] using h)]
  decide
theorem Fo (c:aZ):Abs.Spec Tryz.prog 101 [] [.agg c.cells] [] (.int .i64 (zK c)):=by
 have c1:=gC c.kind 1 22;have c2:=fun h=>DR c.kind h
 have c3:=gC c.client 1 8;have cH:=fun b=>HX (eD c.kind) b (Lx c.kind)
 have cF:=fun b=>DA c b
 obtain ⟨E,hE⟩:=aH (zK c);rw [<- hE];simp only [zK] at hE;obtain ⟨l,hl⟩:=aH (eD c.kind);rw [<- hl] at c2 cH hE;clear hl;simp only [aZ.cells] at cF |-;refine bu 52 1 [.tmp 2] mixed Tryz.func101 ?_;simp only [go_sem,seval];(with_reducible and_intros)<;>first|exact .dq|omega|skip
 refine aa.pure c1 ?_;cases b1:within c.kind 1 22
 ·rw [b1] at hE;rw [hE];simp only [go_sem,seval]<;>simp
 have c2:=c2 (by simpa [within] using b1);rw [b1,if_pos rfl] at hE;simp only [go_sem,seval];(with_reducible and_intros)<;>first|exact .dq|omega|skip
 refine aa.pure c2 ?_;clear c1 c2 b1;simp only [go_sem,seval];(with_reducible and_intros)<;>first|exact .dq|omega|skip
 rw [show (⟨#[119,111,110,105,99,113,112,97]⟩:ByteArray)=VR from rfl];have hA8:VR.size=8:=rfl;obtain ⟨A,hA⟩:=aH (VR);rw [<- hA] at hE hA8 |-;obtain ⟨F,hF⟩:=aH (Dr c l A 8 0);rw [<- hF] at hE;have hF6:=Mn c l A 8 0;rw [<- hF] at hF6;refine aC.walk (S:=Unit) A.size [1,3,4] [32,224] (fun i _=>[(5,.int .i64 i)]) (fun _ _=>[]) (fun i _=>Dr c l A (A.size-i) i=F) () (by rw [hA8];exact hF.symm) ?_ ?_ ?_
 ·simp only [go_sem,seval]
  try simp
 ·intro i _ hi hdi hwi hI;obtain ⟨m,hm⟩:∃ m,A.size-i=m+1:=⟨A.size-i-1,by omega⟩
  have hm2:A.size-(i+1)=m:=by omega
  rw [hm] at hI;simp only [Dr] at hI;have hli:(i:Int) < (A.size:Int):=by omega
  have hb:((A[i]?).map (fun x=>(x.toNat:Int))).getD 0=rR A i:=rfl;have cHi:=cH (rR A i);have cFi:=cF (rR A i);obtain ⟨b,hbb⟩:=aH (rR A i);rw [<- hbb] at hb hI cHi cFi;clear cH cF c3;simp only [go_sem,seval,hdi,Int.toNat_natCast,hb];(with_reducible and_intros)<;>first|exact .dq|omega|skip
  refine aa.pure cHi ?_;cases q:hasB l b
  ·rw [q,Bool.not_false,Bool.true_and] at hI;simp only [go_sem,seval,Int.toNat_natCast,hb];(with_reducible and_intros)<;>first|exact .dq|omega|skip
   refine aa.pure cFi ?_;cases q2:KN c b==0
   ·rw [q2,Bool.not_false,if_pos rfl] at hI;have:E=6:=by rw [hE,<- hI];rfl
    rw [this];simp only [go_sem,seval,bne,q2]
   ·rw [q2] at hI;simp only [go_sem,seval,bne,q2,hwi];refine ah.step () hi (by rw [hm2];simpa using hI) ?_;simp only [go_sem,seval]
  ·rw [q] at hI;simp only [go_sem,seval,hwi];refine ah.step () hi (by rw [hm2];simpa using hI) ?_;simp only [go_sem,seval]
 intro _ hdx hI;rw [Nat.sub_self] at hI;have hI:F=0:=hI.symm;rw [if_pos hI] at hE;clear hF hF6 cF hI;obtain ⟨G,hG⟩:=aH (Mv c l 6 0);rw [<- hG] at hE;have cH:=cH 115;simp only [go_sem,seval,hdx];(with_reducible and_intros)<;>first|exact .dq|omega|skip
 refine aC.walk (S:=Unit) 6 [1,3] [32,224] (fun i _=>[(6,.int .i64 i)]) (fun _ _=>[]) (fun i _=>Mv c l (6-i) i=G) () hG.symm ?_ ?_ ?_
 ·simp only [go_sem,seval]
  try simp
 ·intro i _ hi hdi hwi hI;have hdi:decide ((i:Int) < 6)=true:=hdi;obtain ⟨m,hm⟩:∃ m,6-i=m+1:=⟨6-i-1,by omega⟩
  have hm2:6-(i+1)=m:=by omega
  rw [hm] at hI;simp only [Mv] at hI;simp only [go_sem,seval,hdi];(with_reducible and_intros)<;>first|exact .dq|omega|skip
  refine aa.pure cH ?_;cases q:hasB l 115
  case true =>
   rw [q] at hI;simp only [go_sem,seval,hwi];refine ah.step () hi (by rw [hm2];simpa using hI) ?_;simp only [go_sem,seval]
  rw [q,Bool.not_false,Bool.true_and] at hI;rcases (by omega:i=0\/i=1\/i=2\/i=3\/i=4\/i=5) with rfl | rfl | rfl | rfl | rfl | rfl
  ·simp only [yC] at hI;cases q2:c.s0==0
   ·rw [q2,Bool.not_false,if_pos rfl] at hI;have:E=6:=by rw [hE,<- hI];rfl
    rw [this];simp only [go_sem,seval,bne,q2]<;>simp
   ·rw [q2] at hI;simp only [go_sem,seval,bne,q2,hwi];refine ah.step () hi (by rw [hm2];simpa using hI) ?_;simp only [go_sem,seval];rfl
  ·simp only [yC] at hI;cases q2:c.s1==0
   ·rw [q2,Bool.not_false,if_pos rfl] at hI;have:E=6:=by rw [hE,<- hI];rfl
    rw [this];simp only [go_sem,seval,bne,q2]<;>simp
   ·rw [q2] at hI;simp only [go_sem,seval,bne,q2,hwi];refine ah.step () hi (by rw [hm2];simpa using hI) ?_;simp only [go_sem,seval];rfl
  ·simp only [yC] at hI;cases q2:c.s2==0
   ·rw [q2,Bool.not_false,if_pos rfl] at hI;have:E=6:=by rw [hE,<- hI];rfl
    rw [this];simp only [go_sem,seval,bne,q2]<;>simp
   ·rw [q2] at hI;simp only [go_sem,seval,bne,q2,hwi];refine ah.step () hi (by rw [hm2];simpa using hI) ?_;simp only [go_sem,seval];rfl
  ·simp only [yC] at hI;cases q2:c.s3==0
   ·rw [q2,Bool.not_false,if_pos rfl] at hI;have:E=6:=by rw [hE,<- hI];rfl
    rw [this];simp only [go_sem,seval,bne,q2]<;>simp
   ·rw [q2] at hI;simp only [go_sem,seval,bne,q2,hwi];refine ah.step () hi (by rw [hm2];simpa using hI) ?_;simp only [go_sem,seval];rfl
  ·simp only [yC] at hI;cases q2:c.s4==0
   ·rw [q2,Bool.not_false,if_pos rfl] at hI;have:E=6:=by rw [hE,<- hI];rfl
    rw [this];simp only [go_sem,seval,bne,q2]<;>simp
   ·rw [q2] at hI;simp only [go_sem,seval,bne,q2,hwi];refine ah.step () hi (by rw [hm2];simpa using hI) ?_;simp only [go_sem,seval];rfl
  ·simp only [yC] at hI;cases q2:c.s5==0
   ·rw [q2,Bool.not_false,if_pos rfl] at hI;have:E=6:=by rw [hE,<- hI];rfl
    rw [this];simp only [go_sem,seval,bne,q2]<;>simp
   ·rw [q2] at hI;simp only [go_sem,seval,bne,q2,hwi];refine ah.step () hi (by rw [hm2];simpa using hI) ?_;simp only [go_sem,seval];rfl
 intro _ hdx hI;have hI:G=0:=hI.symm;rw [if_pos hI] at hE;have hdx:decide (((6:Nat):Int) < 6)=false:=hdx;simp only [go_sem,seval];(with_reducible and_intros)<;>first|exact .dq|omega|skip
 refine aa.pure c3 ?_;cases b3:within c.client 1 8
 ·rw [b3] at hE;rw [hE];simp only [go_sem,seval]<;>simp
 ·rw [b3] at hE;rw [hE];simp only [go_sem,seval]<;>simp
def bq.err (e:Int):bq:=⟨e,0,0,[],[]⟩
def B3 (c:aZ) (last:Int):bq × Bool:=if c.seq=IntKind.wrap .i64 (last+1) then (if 1099511627776 < c.seq then (.err 1,true) else (.err 0,false)) else (.err 19,true)
def ck.zero:ck:=⟨0,0,.err 0⟩
def lP (s:af) (i:Int):ck:=s.aN.getD i.toNat .zero
def mq (s:af) (c:aZ):bq × Bool:=
 if zK c=0 then (if 0<=gL c.client s.aN 0 then (if c.seq=(lP s (gL c.client s.aN 0)).seq then ((lP s (gL c.client s.aN 0)).r,true) else if c.seq < (lP s (gL c.client s.aN 0)).seq then (.err 18,true) else B3 c (lP s (gL c.client s.aN 0)).seq) else B3 c 0) else (.err (zK c),true)
theorem NF (n:Int):∀ (l:List ck) (k:Int),0<=k->0<=gL n l k->∃ j:Nat,j < l.length/\gL n l k=k+j
 | [],k,_,h=>by simp [gL] at h
 | x :: r,k,hk,h=>by
  simp only [gL] at h |-;split
  ·exact ⟨0,by simp,by simp⟩
  ·rename_i hx;rw [if_neg hx] at h;obtain ⟨j,h1,h2⟩:=NF n r (k+1) (by omega) h;exact ⟨j+1,by simp;omega,by rw [h2];omega⟩
theorem sS (s:af) (c:aZ) (hs:s.small):Abs.Spec Tryz.prog 50 [] [.agg s.cells,.agg c.cells] [] (.bI [.agg (mq s c).1.cells,.bool (mq s c).2]):=by
 have c1:=Fo c;have c2:=vc s c.client (by have:=hs.aN;omega);have hlt:=NF c.client s.aN 0 (by omega);obtain ⟨E,hE⟩:=aH (mq s c);rw [<- hE];simp only [mq] at hE;obtain ⟨fe,hfe⟩:=aH (zK c);obtain ⟨i,hi⟩:=aH (gL c.client s.aN 0);rw [<- hfe] at c1 hE;rw [<- hi] at c2 hE hlt;clear hfe hi;simp only [aZ.cells] at c1 |-;simp only [af.cells] at c2 |-;refine bu 54 2 [.cell 4 91,.tmp 5] mixed Tryz.func50 ?_;simp only [go_sem,seval];(with_reducible and_intros)<;>first|exact .dq|omega|skip
 refine aa.pure c1 ?_;clear c1
 by_cases b1:fe=0
 case neg =>
  have d:(fe==0)=false:=by simpa using b1
  rw [if_neg b1] at hE;rw [hE];simp only [go_sem,seval,bne,d]<;>simp [bq.err]
 rw [if_pos b1] at hE;rw [b1];simp only [go_sem,seval];(with_reducible and_intros)<;>first|exact .dq|omega|skip
 refine aa.pure c2 ?_;clear c2
 by_cases b2:0<=i
 case neg =>
  have d:decide (0<=i)=false:=by simpa using b2
  rw [if_neg b2] at hE;simp only [B3,show IntKind.wrap .i64 (0+1)=1 from rfl] at hE;have hw1:IntKind.wrap .i64 1=1:=rfl;simp only [go_sem,seval,d,hw1];(with_reducible and_intros)<;>first|exact .dq|omega|skip
  by_cases b3:c.seq=1
  ·rw [if_pos b3,b3] at hE;have hE:E=(.err 0,false):=hE;rw [hE,b3];simp only [go_sem,seval]<;>simp [bq.err]
  ·have d3:(c.seq==1)=false:=by simpa using b3
   rw [if_neg b3] at hE;rw [hE];simp only [go_sem,seval,bne,d3]<;>simp [bq.err]
 obtain ⟨j,hj,hij⟩:=hlt b2;have hij:i=(j:Int):=by omega
 subst hij;have d:decide ((0:Int)<=(j:Int))=true:=by simp
 have hat:lP s (j:Int)=s.aN[j]:=by simp [lP,hj]
 rw [if_pos b2,hat] at hE;have hm:=aG (c:=ck.cells) s.aN hj;have hfit:=hs.rs _ (List.getElem_mem hj);have hlj:(j:Int) < (s.aN.length:Int):=by omega
 obtain ⟨x,hx⟩:=aH (s.aN[j]);rw [<- hx] at hE hm hfit;have cT:=l8 x.r hfit;simp only [ck.cells] at hm;simp only [bq.cells] at cT;simp only [go_sem,seval,d,aJ,hm,Int.toNat_natCast];(with_reducible and_intros)<;>first|exact .dq|omega|skip
 by_cases b3:c.seq=x.seq
 ·have d3:(c.seq==x.seq)=true:=by simpa using b3
  rw [if_pos b3] at hE;rw [hE];simp only [go_sem,seval,d3,aJ,hm,Int.toNat_natCast];(with_reducible and_intros)<;>first|exact .dq|omega|skip
  refine aa.pure cT ?_;simp only [go_sem,seval]<;>simp
 have d3:(c.seq==x.seq)=false:=by simpa using b3
 rw [if_neg b3] at hE;simp only [go_sem,seval,d3];(with_reducible and_intros)<;>first|exact .dq|omega|skip
 by_cases b4:c.seq < x.seq
 ·have d4:decide (c.seq < x.seq)=true:=by simpa using b4
  rw [if_pos b4] at hE;rw [hE];simp only [go_sem,seval,d4]<;>simp [bq.err]
 have d4:decide (c.seq < x.seq)=false:=by simpa using b4
 rw [if_neg b4] at hE;simp only [B3] at hE;obtain ⟨v,hv⟩:=aH (IntKind.wrap .i64 (x.seq+1));rw [<- hv] at hE;simp only [go_sem,seval,d4,<- hv];(with_reducible and_intros)<;>first|exact .dq|omega|skip
 by_cases b5:c.seq=v
 ·have d5:(c.seq==v)=true:=by simpa using b5
  rw [if_pos b5] at hE;simp only [go_sem,seval,bne,d5];(with_reducible and_intros)<;>first|exact .dq|omega|skip
  by_cases b6:1099511627776 < c.seq
  ·have d6:decide (1099511627776 < c.seq)=true:=by simpa using b6
   rw [if_pos b6] at hE;rw [hE];simp only [go_sem,seval,d6]<;>simp [bq.err]
  ·have d6:decide (1099511627776 < c.seq)=false:=by simpa using b6
   rw [if_neg b6] at hE;rw [hE];simp only [go_sem,seval,d6]<;>simp [bq.err]
 ·have d5:(c.seq==v)=false:=by simpa using b5
  rw [if_neg b5] at hE;rw [hE];simp only [go_sem,seval,bne,d5]<;>simp [bq.err]
def tH (s:af) (g:List aY):Int:=eT s.aW (nextId s.aW) g
def lE (s:af) (g:List aY):af:=if tH s g=0 then { s with aW:=gW s.aW (nextId s.aW) g } else s
theorem jq (s:af) (g:List aY) (hl:s.aW.bs.length < 2 ^ 30) (hr:∀ b∈s.aW.bs,b.cU) (hg:g.length < 2 ^ 29) :
  Abs.Spec Tryz.prog 110 [.box s.cells] [.addr 0 0,.sl 4 (g.map aY.cells)] [.box (lE s g).cells] (.int .i64 (tH s g)):=by
 have c1:=qG s.aW (nextId s.aW) g hl hr hg;obtain ⟨S,hS⟩:=aH (lE s g);rw [<- hS];simp only [lE] at hS;obtain ⟨e,he⟩:=aH (tH s g);rw [<- he] at hS |-;simp only [tH] at he;rw [<- he] at c1;clear he;simp only [bz.cells,nextId] at c1;simp only [nextId] at hS;simp only [af.cells];refine bu 29 2 [.tmp 4] mixed Tryz.func110 ?_;simp only [go_sem,seval];(with_reducible and_intros)<;>first|exact .dq|omega|skip
 refine aa.pure c1 ?_;simp only [go_sem,seval];(with_reducible and_intros)<;>first|exact .dq|omega|skip
 by_cases b1:e=0
 ·have d:(e==0)=true:=by simpa using b1
  rw [if_pos b1] at hS;rw [hS];simp only [go_sem,seval,d]
 ·have d:(e==0)=false:=by simpa using b1
  rw [if_neg b1] at hS;rw [hS];simp only [go_sem,seval,d]
structure af.good (s:af):Prop where
 small:s.small
 cU:s.cU
 ms:s.aj.ms.length < 2 ^ 27
 qs:s.book.qs.length < 2 ^ 20
 bp:s.bp.length < 2 ^ 20
 bs:s.aW.bs.length < 2 ^ 29
 ps:s.ps.length < 2 ^ 28
theorem af.good.aW {s:af} (h:s.good) {l:bz} (hl:l.gF):({ s with aW:=l }:af).good:=
 ⟨⟨h.small.aj,h.small.book,Nat.lt_trans hl.1 (by decide),h.small.ps,h.small.calls,h.small.bp,h.small.aN,h.small.rs⟩,
  ⟨h.cU.now,h.cU.day,h.cU.phase,h.cU.ms,h.cU.ns,h.cU.xs,h.cU.next,h.cU.ts,h.cU.qs,hl.2.2,hl.2.1,h.cU.ps,h.cU.calls,h.cU.bp,h.cU.aN⟩,h.ms,h.qs,h.bp,hl.1,h.ps⟩
theorem af.good.gF {s:af} (h:s.good):s.aW.gF:=⟨h.bs,h.cU.bs,h.cU.last⟩
theorem Il {s:af} (h:s.good) (g:List aY):(lE s g).good:=by
 unfold lE;split
 ·exact h.aW Jz
 ·exact h
def XF (s:af) (d:aQ):af:={ s with calls:=sX s.calls d }
def oZ (s:af) (c:aZ):af × Int:=
 if aD.right ⟨2,c.who,c.cur⟩&&within c.cm 1 4611686018427387904 then
  (if FX s.aj c.who=0 then
   (if c.kind=8 then (lE s (bS ⟨1,0,c.cur⟩ ⟨3,c.who,c.cur⟩ c.cm),tH s (bS ⟨1,0,c.cur⟩ ⟨3,c.who,c.cur⟩ c.cm))
   else if c.kind=4 then
    (if tH s (bS ⟨1,0,c.cur⟩ ⟨2,c.who,c.cur⟩ c.cm)=0 then (XF (lE s (bS ⟨1,0,c.cur⟩ ⟨2,c.who,c.cur⟩ c.cm)) ⟨c.who,c.cur,c.cm⟩,qS s.calls ⟨c.who,c.cur,c.cm⟩)
    else (lE s (bS ⟨1,0,c.cur⟩ ⟨2,c.who,c.cur⟩ c.cm),tH s (bS ⟨1,0,c.cur⟩ ⟨2,c.who,c.cur⟩ c.cm)))
   else
    (lE s (bS ⟨2,c.who,c.cur⟩ ⟨1,0,c.cur⟩ c.cm),if tH s (bS ⟨2,c.who,c.cur⟩ ⟨1,0,c.cur⟩ c.cm)=0 then Sw (lE s (bS ⟨2,c.who,c.cur⟩ ⟨1,0,c.cur⟩ c.cm)) c.who c.cur else tH s (bS ⟨2,c.who,c.cur⟩ ⟨1,0,c.cur⟩ c.cm)))
  else (s,FX s.aj c.who))
 else (s,3)
theorem qd (s:af) (c:aZ) (h:s.good):Abs.Spec Tryz.prog 105 [.box s.cells] [.addr 0 0,.agg c.cells] [.box (oZ s c).1.cells] (.int .i64 (oZ s c).2):=by
 have c1:=gM 2 c.who c.cur;have c2:=gM 1 0 c.cur;have c3:=gM 3 c.who c.cur;have c4:=fT ⟨2,c.who,c.cur⟩;have c5:=gC c.cm 1 4611686018427387904;have c6:=rG s c.who h.small.aj.small;have m8:=iM ⟨1,0,c.cur⟩ ⟨3,c.who,c.cur⟩ c.cm;have m4:=iM ⟨1,0,c.cur⟩ ⟨2,c.who,c.cur⟩ c.cm;have m5:=iM ⟨2,c.who,c.cur⟩ ⟨1,0,c.cur⟩ c.cm;have hgl:∀ a b n,(bS a b n).length < 2 ^ 29:=fun _ _ _=>by simp [bS]
 have p8:=jq s (bS ⟨1,0,c.cur⟩ ⟨3,c.who,c.cur⟩ c.cm) h.small.aW h.cU.bs (hgl _ _ _);have p4:=jq s (bS ⟨1,0,c.cur⟩ ⟨2,c.who,c.cur⟩ c.cm) h.small.aW h.cU.bs (hgl _ _ _);have p5:=jq s (bS ⟨2,c.who,c.cur⟩ ⟨1,0,c.cur⟩ c.cm) h.small.aW h.cU.bs (hgl _ _ _);have cM:=Ac s.calls ⟨c.who,c.cur,c.cm⟩ h.small.calls;have g5:=Il h (bS ⟨2,c.who,c.cur⟩ ⟨1,0,c.cur⟩ c.cm);have cC:=p7 (lE s (bS ⟨2,c.who,c.cur⟩ ⟨1,0,c.cur⟩ c.cm)) c.who c.cur g5.small g5.cU g5.bs (by have:=g5.ps;omega);have hcal:(lE s (bS ⟨1,0,c.cur⟩ ⟨2,c.who,c.cur⟩ c.cm)).calls=s.calls:=by unfold lE;split<;>rfl
 clear g5 hgl;obtain ⟨R,hR⟩:=aH (oZ s c);rw [<- hR];simp only [oZ] at hR;obtain ⟨L8,h8⟩:∃ L,L=bS ⟨1,0,c.cur⟩ ⟨3,c.who,c.cur⟩ c.cm:=⟨_,rfl⟩
 obtain ⟨L4,h4⟩:∃ L,L=bS ⟨1,0,c.cur⟩ ⟨2,c.who,c.cur⟩ c.cm:=⟨_,rfl⟩
 obtain ⟨L5,h5⟩:∃ L,L=bS ⟨2,c.who,c.cur⟩ ⟨1,0,c.cur⟩ c.cm:=⟨_,rfl⟩
 rw [<- h8] at m8 p8 hR;rw [<- h4] at m4 p4 hR hcal;rw [<- h5] at m5 p5 cC hR;clear h8 h4 h5;obtain ⟨S8,s8⟩:∃ S,S=lE s L8:=⟨_,rfl⟩
 obtain ⟨S4,s4⟩:∃ S,S=lE s L4:=⟨_,rfl⟩
 obtain ⟨S5,s5⟩:∃ S,S=lE s L5:=⟨_,rfl⟩
 obtain ⟨E8,e8⟩:∃ E,E=tH s L8:=⟨_,rfl⟩
 obtain ⟨E4,e4⟩:∃ E,E=tH s L4:=⟨_,rfl⟩
 obtain ⟨E5,e5⟩:∃ E,E=tH s L5:=⟨_,rfl⟩
 rw [<- s8,<- e8] at p8;rw [<- s4,<- e4] at p4;rw [<- s5,<- e5] at p5;rw [<- s4] at hcal;rw [<- s5] at cC;rw [<- s8,<- s4,<- s5,<- e8,<- e4,<- e5] at hR;clear s8 s4 s5 e8 e4 e5;rw [<- hcal] at cM hR;simp only [XF] at hR;obtain ⟨ML,hML⟩:∃ M,M=sX S4.calls ⟨c.who,c.cur,c.cm⟩:=⟨_,rfl⟩
 obtain ⟨me,hme⟩:∃ M,M=qS S4.calls ⟨c.who,c.cur,c.cm⟩:=⟨_,rfl⟩
 obtain ⟨ce,hce⟩:∃ M,M=Sw S5 c.who c.cur:=⟨_,rfl⟩
 obtain ⟨ae,hae⟩:∃ M,M=FX s.aj c.who:=⟨_,rfl⟩
 rw [<- hML,<- hme] at cM;rw [<- hce] at cC;rw [<- hae] at c6;rw [<- hML,<- hme,<- hce,<- hae] at hR;clear hML hme hce hae hcal;simp only [aD.cells] at c4 m8 m4 m5;simp only [aQ.cells] at cM;simp only [af.cells] at c6 p8 p4 p5 cC |-;simp only [aZ.cells];refine bu 97 2 [.tmp 4] mixed Tryz.func105 ?_;simp only [go_sem,seval];(with_reducible and_intros)<;>first|exact .dq|omega|skip
 refine aa.pure c1 ?_;simp only [go_sem,seval];(with_reducible and_intros)<;>first|exact .dq|omega|skip
 refine aa.pure c2 ?_;simp only [go_sem,seval];(with_reducible and_intros)<;>first|exact .dq|omega|skip
 refine aa.pure c4 ?_;cases b1:aD.right ⟨2,c.who,c.cur⟩
 ·rw [b1] at hR;have hR:R=(s,3):=hR;rw [hR];simp only [go_sem,seval]<;>simp
 rw [b1,Bool.true_and] at hR;simp only [go_sem,seval];(with_reducible and_intros)<;>first|exact .dq|omega|skip
 refine aa.pure c5 ?_;cases b2:within c.cm 1 4611686018427387904
 ·rw [b2] at hR;have hR:R=(s,3):=hR;rw [hR];simp only [go_sem,seval]<;>simp
 rw [b2,if_pos rfl] at hR;simp only [go_sem,seval];(with_reducible and_intros)<;>first|exact .dq|omega|skip
 refine aa.pure c6 ?_
 by_cases b3:ae=0
 case neg =>
  have d:(ae==0)=false:=by simpa using b3
  rw [if_neg b3] at hR;rw [hR];simp only [go_sem,seval,bne,d]<;>simp
 rw [if_pos b3] at hR;rw [b3];clear c1 c2 c4 c5 c6 b1 b2 b3;simp only [go_sem,seval];(with_reducible and_intros)<;>first|exact .dq|omega|skip
 by_cases k8:c.kind=8
 ·have d:(c.kind==8)=true:=by simpa using k8
  rw [if_pos k8] at hR;rw [hR];simp only [go_sem,seval,d];(with_reducible and_intros)<;>first|exact .dq|omega|skip
  refine aa.pure c3 ?_;simp only [go_sem,seval];(with_reducible and_intros)<;>first|exact .dq|omega|skip
  refine aa.pure m8 ?_;simp only [go_sem,seval];(with_reducible and_intros)<;>first|exact .dq|omega|skip
  refine aa.gen [] [0] false (by simp) ?_;simp only [go_sem,seval];refine aU.intro p8 ?_;simp only [go_sem,seval]
 have d8:(c.kind==8)=false:=by simpa using k8
 rw [if_neg k8] at hR;simp only [go_sem,seval,d8];(with_reducible and_intros)<;>first|exact .dq|omega|skip
 by_cases k4:c.kind=4
 ·have d:(c.kind==4)=true:=by simpa using k4
  rw [if_pos k4] at hR;simp only [go_sem,seval,d];(with_reducible and_intros)<;>first|exact .dq|omega|skip
  refine aa.pure m4 ?_;simp only [go_sem,seval];(with_reducible and_intros)<;>first|exact .dq|omega|skip
  refine aa.gen [] [0] false (by simp) ?_;simp only [go_sem,seval];refine aU.intro p4 ?_;simp only [go_sem,seval];(with_reducible and_intros)<;>first|exact .dq|omega|skip
  by_cases q:E4=0
  ·have d:(E4==0)=true:=by simpa using q
   rw [if_pos q] at hR;rw [hR];simp only [go_sem,seval,d];(with_reducible and_intros)<;>first|exact .dq|omega|skip
   refine aa.pure cM ?_;simp only [go_sem,seval];(with_reducible and_intros)<;>first|exact .dq|omega|skip
  ·have d:(E4==0)=false:=by simpa using q
   rw [if_neg q] at hR;rw [hR];simp only [go_sem,seval,d]
 have d4:(c.kind==4)=false:=by simpa using k4
 rw [if_neg k4] at hR;simp only [go_sem,seval,d4];(with_reducible and_intros)<;>first|exact .dq|omega|skip
 refine aa.pure m5 ?_;simp only [go_sem,seval];(with_reducible and_intros)<;>first|exact .dq|omega|skip
 refine aa.gen [] [0] false (by simp) ?_;simp only [go_sem,seval];refine aU.intro p5 ?_;simp only [go_sem,seval];(with_reducible and_intros)<;>first|exact .dq|omega|skip
 by_cases q:E5=0
 ·have d:(E5==0)=true:=by simpa using q
  rw [if_pos q] at hR;rw [hR];simp only [go_sem,seval,d];(with_reducible and_intros)<;>first|exact .dq|omega|skip
  refine aa.pure cC ?_;simp only [go_sem,seval]
 ·have d:(E5==0)=false:=by simpa using q
  rw [if_neg q] at hR;rw [hR];simp only [go_sem,seval,d]
theorem B5 (ps:List dS) (w a u:Int) (hl:ps.length < 2 ^ 29):Abs.Spec Tryz.prog 184 [] [.sl 3 (pl ps),.int .i64 w,.int .i64 a,.int .i64 u] [] (.bI [.sl 3 (pl (dh ps w a u)),.int .i64 (eg ps w a u)]):=by
 refine Spec.frozen (G9 ps w a u hl) [0] rfl ?_;intro r;rcases r with _ | r<;>rfl
def Pw (r:aq) (n:Int):Bool:=decide (0<=iJ au.a n r.xs)
def oW (r:aq) (n:Int):au:=fX au.a n ⟨0,0,0,0⟩ r.xs
def oq (c:aZ):Int:=if c.kind=7 then -c.bg else c.bg
def kI (s:af) (c:aZ) (n:Int):af × Int:=
 if within c.bg 1 1099511627776 then
  (if dQ s.aj c.who&&Pw s.aj c.no then
   (if (ew s.aj c.who).state=1 then
    (if eg s.ps c.who c.no n=0 then
     (if n < 0 then ({ s with ps:=dh s.ps c.who c.no n },Sw { s with ps:=dh s.ps c.who c.no n } c.who (oW s.aj c.no).b)
     else if (oW s.aj c.no).E n=0 then ({ s with ps:=dh s.ps c.who c.no n,calls:=sX s.calls ⟨c.who,(oW s.aj c.no).b,(oW s.aj c.no).V n⟩ },qS s.calls ⟨c.who,(oW s.aj c.no).b,(oW s.aj c.no).V n⟩)
     else ({ s with ps:=dh s.ps c.who c.no n },(oW s.aj c.no).E n))
    else (s,eg s.ps c.who c.no n))
   else (s,14))
  else (s,10))
 else (s,3)
theorem zV {ps:List dS} {w a u:Int} (h:eg ps w a u=0):Good (dh ps w a u):=by
 obtain ⟨h1,h2,h3,h4,h5,h6⟩:=Sv h;unfold dh;rw [if_pos h];exact MN h2 h6 h1
theorem U2 {p:dS} (h:p.ok):p.cU:=by
 obtain ⟨h1,h2,h3⟩:=h;have:=mD.1 h1;exact ⟨⟨by omega,by omega⟩,⟨by omega,by omega⟩,⟨by omega,by omega⟩⟩
theorem qU (s:af) (c:aZ) (h:s.good):Abs.Spec Tryz.prog 106 [.box s.cells] [.addr 0 0,.agg c.cells] [.box (kI s c (oq c)).1.cells] (.int .i64 (kI s c (oq c)).2):=by
 have c1:=gC c.bg 1 1099511627776;have c2:=ct s.aj c.who h.small.aj.small;have c3:=lg s.aj c.no h.small.aj.small;have e3:fX au.a c.no ⟨0,0,0,0⟩ s.aj.xs=oW s.aj c.no:=rfl;have e4:decide (0<=iJ au.a c.no s.aj.xs)=Pw s.aj c.no:=rfl;rw [e3,e4] at c3;have c5:=fun n=>B5 s.ps c.who c.no n (by have:=h.ps;omega)
 have cM:=fun d=>Ac s.calls d h.small.calls
 have cV:=fun n=>xu (oW s.aj c.no) n
 have cC:∀ n,eg s.ps c.who c.no n=0->_:=fun n hn=>p7 { s with ps:=dh s.ps c.who c.no n } c.who (oW s.aj c.no).b
  ⟨h.small.aj,h.small.book,h.small.aW,by have:=Ki c.who c.no (bZ c.who c.no s.ps+n) s.ps;have:=h.ps;simp only [dh,if_pos hn];omega,h.small.calls,h.small.bp,h.small.aN,h.small.rs⟩
  ⟨h.cU.now,h.cU.day,h.cU.phase,h.cU.ms,h.cU.ns,h.cU.xs,h.cU.next,h.cU.ts,h.cU.qs,h.cU.last,h.cU.bs,fun p hp=>U2 ((zV hn).1 p hp),h.cU.calls,h.cU.bp,h.cU.aN⟩
  h.bs (by have:=Ki c.who c.no (bZ c.who c.no s.ps+n) s.ps;have:=h.ps;simp only [dh,if_pos hn];omega)
 obtain ⟨n,hn⟩:=aH (oq c);rw [<- hn];have c5:=c5 n;have cV:=cV n;have cC:=cC n;obtain ⟨R,hR⟩:=aH (kI s c n);rw [<- hR];simp only [kI] at hR;obtain ⟨m,hm⟩:=aH (ew s.aj c.who);obtain ⟨a,ha⟩:=aH (oW s.aj c.no);obtain ⟨mi,hmi⟩:∃ m,m=dQ s.aj c.who:=⟨_,rfl⟩
 obtain ⟨ai,hai⟩:∃ m,m=Pw s.aj c.no:=⟨_,rfl⟩
 rw [<- hm,<- hmi] at c2;rw [<- ha,<- hai] at c3;rw [<- ha] at cV;simp only [<- ha] at cC;rw [<- hm,<- hmi,<- ha,<- hai] at hR;obtain ⟨qs,hqs⟩:∃ l,l=dh s.ps c.who c.no n:=⟨_,rfl⟩
 obtain ⟨qe,hqe⟩:∃ l,l=eg s.ps c.who c.no n:=⟨_,rfl⟩
 rw [<- hqs,<- hqe] at c5 hR;rw [<- hqs,<- hqe] at cC;obtain ⟨ce,hce⟩:∃ e,e=Sw { s with ps:=qs } c.who a.b:=⟨_,rfl⟩
 rw [<- hce] at cC hR;clear hm ha hmi hai hqs hqe hce e3 e4;have cM:=cM ⟨c.who,a.b,a.V n⟩;simp only [aq.cells] at c2 c3;simp only [au.cells] at c3 cV;simp only [aQ.cells] at cM;obtain ⟨V,hV⟩:=aH (a.V n);obtain ⟨ve,hve⟩:∃ V,V=a.E n:=⟨_,rfl⟩
 rw [<- hV] at cM;rw [<- hV,<- hve] at cV hR;obtain ⟨ML,hML⟩:∃ M,M=sX s.calls ⟨c.who,a.b,V⟩:=⟨_,rfl⟩
 obtain ⟨me,hme⟩:∃ M,M=qS s.calls ⟨c.who,a.b,V⟩:=⟨_,rfl⟩
 rw [<- hML,<- hme] at cM hR;clear hV hve hML hme;simp only [af.cells] at cC |-;simp only [aZ.cells];refine bu 109 2 [.tmp 4] mixed Tryz.func106 ?_;simp only [go_sem,seval];(with_reducible and_intros)<;>first|exact .dq|omega|skip
 refine aa.pure c1 ?_;cases b1:within c.bg 1 1099511627776
 ·rw [b1] at hR;have hR:R=(s,3):=hR;rw [hR];simp only [go_sem,seval]<;>simp
 rw [b1,if_pos rfl] at hR;simp only [within,cr,decide_eq_true_eq] at b1;simp only [go_sem,seval];(with_reducible and_intros)<;>first|exact .dq|omega|skip
 refine aa.pure c2 ?_;simp only [go_sem,seval];(with_reducible and_intros)<;>first|exact .dq|omega|skip
 refine aa.pure c3 ?_;clear c1 c2 c3;cases b2:mi
 ·rw [b2] at hR;have hR:R=(s,10):=hR;rw [hR];simp only [go_sem,seval];(with_reducible and_intros)<;>first|exact .dq|omega|skip
 rw [b2,Bool.true_and] at hR;cases b3:ai
 ·rw [b3] at hR;have hR:R=(s,10):=hR;rw [hR];simp only [go_sem,seval];(with_reducible and_intros)<;>first|exact .dq|omega|skip
 rw [b3,if_pos rfl] at hR;simp only [go_sem,seval];(with_reducible and_intros)<;>first|exact .dq|omega|skip
 by_cases b4:m.state=1
 case neg =>
  have d:(m.state==1)=false:=by simpa using b4
  rw [if_neg b4] at hR;rw [hR];simp only [go_sem,seval,bne,d]<;>simp
 have d4:(m.state==1)=true:=by simpa using b4
 rw [if_pos b4] at hR;have hw:IntKind.wrap .i64 (0-c.bg) = -c.bg:=by rw [bn (by omega) (by omega)];omega
 simp only [go_sem,seval,bne,d4];(with_reducible and_intros)<;>first|exact .dq|omega|skip
 by_cases k7:c.kind=7
 ·have dk:(c.kind==7)=true:=by simpa using k7
  have hn:-c.bg=n:=by rw [hn];simp [oq,k7]
  simp only [go_sem,seval,dk,hw,hn];(with_reducible and_intros)<;>first|exact .dq|omega|skip
  refine aa.pure c5 ?_
  by_cases q:qe=0
  case neg =>
   have d:(qe==0)=false:=by simpa using q
   rw [if_neg q] at hR;rw [hR];simp only [go_sem,seval,bne,d]<;>simp
  rw [if_pos q] at hR;have cC:=cC q;rw [q];simp only [go_sem,seval];(with_reducible and_intros)<;>first|exact .dq|omega|skip
  have q2:n < 0:=by omega
  have d2:decide (n < 0)=true:=by simpa using q2
  rw [if_pos q2] at hR;rw [hR];simp only [go_sem,seval,d2];(with_reducible and_intros)<;>first|exact .dq|omega|skip
  refine aa.pure cC ?_;simp only [go_sem,seval]
 ·have dk:(c.kind==7)=false:=by simpa using k7
  have hn:c.bg=n:=by rw [hn];simp [oq,k7]
  simp only [go_sem,seval,dk,hw,hn];(with_reducible and_intros)<;>first|exact .dq|omega|skip
  refine aa.pure c5 ?_
  by_cases q:qe=0
  case neg =>
   have d:(qe==0)=false:=by simpa using q
   rw [if_neg q] at hR;rw [hR];simp only [go_sem,seval,bne,d]<;>simp
  rw [if_pos q] at hR;have cC:=cC q;rw [q];simp only [go_sem,seval];(with_reducible and_intros)<;>first|exact .dq|omega|skip
  have q2:¬ n < 0:=by omega
  have d2:decide (n < 0)=false:=by simpa using q2
  rw [if_neg q2] at hR;simp only [go_sem,seval,d2];(with_reducible and_intros)<;>first|exact .dq|omega|skip
  refine aa.pure cV ?_
  by_cases q3:ve=0
  case neg =>
   have d:(ve==0)=false:=by simpa using q3
   rw [if_neg q3] at hR;rw [hR];simp only [go_sem,seval,d]<;>simp
  rw [if_pos q3] at hR;rw [hR,q3];simp only [go_sem,seval];(with_reducible and_intros)<;>first|exact .dq|omega|skip
  refine aa.pure cM ?_;simp only [go_sem,seval];(with_reducible and_intros)<;>first|exact .dq|omega|skip
def jT (c:aZ):aL:=⟨0,c.who,c.other,c.inst,c.bg,c.aX,false⟩
def jr (s:af) (c:aZ):af × Int × Int:=
 if c.kind=10 then
  (if yw s.aj (jT c)=0 then ({ s with book:=ia s.book (jT c) },qF s.book (jT c),fW s.book (jT c)) else (s,0,yw s.aj (jT c)))
 else if c.kind=13 then ({ s with aj:=xO s.aj c.inst c.aX },0,xL s.aj c.inst c.aX)
 else if gQ c.no s.book.ts < 0 then (s,0,10)
 else if FX s.aj (cy c.no s.book.ts).gp=0/\FX s.aj (cy c.no s.book.ts).eC=0 then
  (if c.kind=11 then ({ s with book:=dO s.book c.no },0,eK s.book c.no)
  else ({ s with book:=oH s.book c.no c.bg c.aX },F3 s.book c.no c.bg c.aX,rL s.book c.no c.bg c.aX))
 else (s,0,14)
theorem jw (s:af) (c:aZ) (h:s.good):Abs.Spec Tryz.prog 113 [.box s.cells] [.addr 0 0,.agg c.cells] [.box (jr s c).1.cells] (.bI [.int .i64 (jr s c).2.1,.int .i64 (jr s c).2.2]):=by
 have c1:=Hq s.aj (jT c) h.small.aj;have c2:=xM s.book (jT c) h.small.book h.cU.qs;have c3:=Lb s.aj c.inst c.aX h.small.aj;have c4:=sv s.book c.no h.small.book;have c5:=fun w=>rG s w h.small.aj.small
 have c6:=uW s.book c.no h.small.book h.cU.qs;have c7:=DF s.book c.no c.bg c.aX h.small.book h.cU.qs;have hfe:¬ gQ c.no s.book.ts < 0->_:=fun hh=>vu (n:=c.no) (ts:=s.book.ts) hh
 obtain ⟨R,hR⟩:=aH (jr s c);rw [<- hR];simp only [jr] at hR;obtain ⟨te,hte⟩:∃ e,e=yw s.aj (jT c):=⟨_,rfl⟩
 obtain ⟨eB,hB⟩:∃ e,e=ia s.book (jT c):=⟨_,rfl⟩
 obtain ⟨eN,hN⟩:∃ e,e=qF s.book (jT c):=⟨_,rfl⟩
 obtain ⟨eE,hE⟩:∃ e,e=fW s.book (jT c):=⟨_,rfl⟩
 rw [<- hte] at c1 hR;rw [<- hB,<- hN,<- hE] at c2 hR;simp only [jT,aL.cells] at c1 c2;simp only [aq.cells] at c1 c3;simp only [aF.cells] at c2 c4 c6 c7;simp only [af.cells] at c5 |-;simp only [aZ.cells];refine bu 142 2 [.tmp 4,.tmp 5] mixed Tryz.func113 ?_;simp only [go_sem,seval];(with_reducible and_intros)<;>first|exact .dq|omega|skip
 by_cases k10:c.kind=10
 ·have dk:(c.kind==10)=true:=by simpa using k10
  rw [if_pos k10] at hR;simp only [go_sem,seval,dk];(with_reducible and_intros)<;>first|exact .dq|omega|skip
  refine aa.pure c1 ?_
  by_cases q:te=0
  ·have d:(te==0)=true:=by simpa using q
   rw [if_pos q] at hR;rw [hR];simp only [go_sem,seval,d];(with_reducible and_intros)<;>first|exact .dq|omega|skip
   refine aa.pure c2 ?_;simp only [go_sem,seval];(with_reducible and_intros)<;>first|exact .dq|omega|skip
  ·have d:(te==0)=false:=by simpa using q
   rw [if_neg q] at hR;rw [hR];simp only [go_sem,seval,d]
 have dk:(c.kind==10)=false:=by simpa using k10
 rw [if_neg k10] at hR;clear c1 c2;simp only [go_sem,seval,dk];(with_reducible and_intros)<;>first|exact .dq|omega|skip
 by_cases k13:c.kind=13
 ·have dk3:(c.kind==13)=true:=by simpa using k13
  rw [if_pos k13] at hR;rw [hR];simp only [go_sem,seval,dk3];(with_reducible and_intros)<;>first|exact .dq|omega|skip
  refine aa.pure c3 ?_;simp only [go_sem,seval];(with_reducible and_intros)<;>first|exact .dq|omega|skip
 have dk3:(c.kind==13)=false:=by simpa using k13
 rw [if_neg k13] at hR;clear c3;simp only [go_sem,seval,dk3];(with_reducible and_intros)<;>first|exact .dq|omega|skip
 refine aa.pure c4 ?_
 by_cases q:gQ c.no s.book.ts < 0
 ·have d:decide (gQ c.no s.book.ts < 0)=true:=by simpa using q
  rw [if_pos q] at hR;rw [hR];simp only [go_sem,seval,d]
 have d:decide (gQ c.no s.book.ts < 0)=false:=by simpa using q
 rw [if_neg q] at hR;obtain ⟨i,hi,hie,_⟩:=hfe q;have hat:cy c.no s.book.ts=s.book.ts[i]:=by simp [cy,hie,hi]
 rw [hat] at hR;have hm:=aG (c:=aL.cells) s.book.ts hi;have hli:(i:Int) < (s.book.ts.length:Int):=by omega
 obtain ⟨x,hx⟩:=aH (s.book.ts[i]);rw [<- hx] at hR hm;have c5b:=c5 x.gp;have c5s:=c5 x.eC;obtain ⟨be,hbe⟩:∃ e,e=FX s.aj x.gp:=⟨_,rfl⟩
 obtain ⟨se,hse⟩:∃ e,e=FX s.aj x.eC:=⟨_,rfl⟩
 rw [<- hbe] at c5b hR;rw [<- hse] at c5s hR;rw [hie] at d |-;simp only [aL.cells] at hm;clear hfe c4 q c5 hbe hse hat hx;simp only [go_sem,seval,d,aJ,hm,Int.toNat_natCast];(with_reducible and_intros)<;>first|exact .dq|omega|skip
 refine aa.pure c5b ?_
 by_cases q1:be=0
 case neg =>
  have d1:(be==0)=false:=by simpa using q1
  rw [if_neg (fun h=>q1 h.1)] at hR;rw [hR];simp only [go_sem,seval,bne,d1]<;>simp
 rw [q1];simp only [go_sem,seval,aJ,hm,Int.toNat_natCast];(with_reducible and_intros)<;>first|exact .dq|omega|skip
 refine aa.pure c5s ?_
 by_cases q2:se=0
 case neg =>
  have d2:(se==0)=false:=by simpa using q2
  rw [if_neg (fun h=>q2 h.2)] at hR;rw [hR];simp only [go_sem,seval,bne,d2]<;>simp
 rw [if_pos ⟨q1,q2⟩] at hR;rw [q2];clear c5b c5s;simp only [go_sem,seval];(with_reducible and_intros)<;>first|exact .dq|omega|skip
 by_cases k11:c.kind=11
 ·have dk1:(c.kind==11)=true:=by simpa using k11
  rw [if_pos k11] at hR;rw [hR];simp only [go_sem,seval,dk1];(with_reducible and_intros)<;>first|exact .dq|omega|skip
  refine aa.pure c6 ?_;simp only [go_sem,seval];(with_reducible and_intros)<;>first|exact .dq|omega|skip
 ·have dk1:(c.kind==11)=false:=by simpa using k11
  rw [if_neg k11] at hR;rw [hR];simp only [go_sem,seval,dk1];(with_reducible and_intros)<;>first|exact .dq|omega|skip
  refine aa.pure c7 ?_;simp only [go_sem,seval];(with_reducible and_intros)<;>first|exact .dq|omega|skip
def w9 (s:af) (c:Int):af × Int:=if jB s.aW s.aj c=0/\fI s.aW s.aj c≠[] then (lE s (fI s.aW s.aj c),tH s (fI s.aW s.aj c)) else (s,jB s.aW s.aj c)
def kR:Nat->Nat->af->List aQ->af × List aQ × Int
 | 0,_,s,ds=>(s,ds,0)
 | m+1,c,s,ds=>if (w9 s c).2=0 then kR m (c+1) (w9 s c).1 (ds++iU s.aW s.aj c) else ((w9 s c).1,[],(w9 s c).2)
theorem Q6 {s:af} (h:s.good) (c:Int):(w9 s c).1.good:=by
 unfold w9;split
 ·exact Il h _
 ·exact h
theorem CU (l:bz) (r:aq) (c:Int):(iU l r c).length<=r.ms.length:=by
 unfold iU;split
 ·have:=fF (f:=uN l c) (m:=1) (fun m=>by unfold uN;split<;>simp) r.ms;simpa using this
 ·simp
theorem Lv (l:bz) (r:aq) (c:Int):(fI l r c).length<=306:=by
 unfold fI;split
 ·exact vK _
 ·simp
theorem DT (s:af) (h:s.good):Abs.Spec Tryz.prog 120 [.box s.cells] [.addr 0 0] [.box (kR 3 0 s []).1.cells,.own 3 ((kR 3 0 s []).2.1.map aQ.cells)] (.bI [.ref 1,.int .i64 (kR 3 0 s []).2.2]):=by
 obtain ⟨R,hR⟩:=aH (kR 3 0 s []);rw [<- hR];simp only [af.cells];refine bu 44 1 [.tmp 2,.tmp 3] mixed Tryz.func120 ?_;simp only [go_sem,seval];(with_reducible and_intros)<;>first|exact .dq|omega|skip
 refine aC.walk (S:=af × List aQ) 3 [0] [] (fun i _=>[(5,.int .i64 i),(4,.ref 688)]) (fun i x=>[(0,.box x.1.cells),(688,.own 3 (x.2.map aQ.cells))])
  (fun i x=>kR (3-i) i x.1 x.2=R/\x.1.good/\x.2.length<=i*134217728) (s,[]) ⟨hR.symm,h,Nat.zero_le _⟩ ?_ ?_ ?_
 ·simp only [go_sem,seval]<;>simp
 ·intro c x hc hdc hwc hI;obtain ⟨t,ds⟩:=x;obtain ⟨hI,hg,hdl⟩:=hI;dsimp only at hI hg hdl |-;have hdc:decide ((c:Int) < 3)=true:=hdc;obtain ⟨m,hm⟩:∃ m,3-c=m+1:=⟨3-c-1,by omega⟩
  have hm2:3-(c+1)=m:=by omega
  rw [hm] at hI;simp only [kR] at hI;have c1:=GJ t.aW t.aj c hg.small.aW hg.cU.bs hg.small.aj hg.ms;have hll:=Lv t.aW t.aj c;have hdd:=CU t.aW t.aj c;have hms:=hg.ms;have c2:=jq t (fI t.aW t.aj c) hg.small.aW hg.cU.bs (by omega);have hpg:=Q6 hg c;obtain ⟨P,hP⟩:=aH (w9 t c);rw [<- hP] at hI hpg;simp only [w9] at hP;obtain ⟨g,hgd⟩:=aH (fI t.aW t.aj c);obtain ⟨D1,hD1⟩:∃ g,g=iU t.aW t.aj c:=⟨_,rfl⟩
  obtain ⟨re,hre⟩:∃ g,g=jB t.aW t.aj c:=⟨_,rfl⟩
  rw [<- hgd] at c1 c2 hP hll;rw [<- hD1] at c1 hI hdd;rw [<- hre] at c1 hP;obtain ⟨PS,hPS⟩:∃ p,p=lE t g:=⟨_,rfl⟩
  obtain ⟨PE,hPE⟩:∃ p,p=tH t g:=⟨_,rfl⟩
  rw [<- hPS,<- hPE] at c2 hP;clear hgd hD1 hre hPS hPE;simp only [bz.cells,aq.cells] at c1;simp only [af.cells] at c2 |-;simp only [go_sem,seval,hdc];(with_reducible and_intros)<;>first|exact .dq|omega|skip
  refine aa.pure c1 ?_
  by_cases q1:re=0
  case neg =>
   have d:(re==0)=false:=by simpa using q1
   rw [if_neg (fun h=>q1 h.1)] at hP;rw [hP] at hI;dsimp only at hI;rw [if_neg q1] at hI;rw [<- hI];simp only [go_sem,seval,bne,d]
   all_goals simp
  rw [q1] at hP |-
  by_cases q2:g=[]
  ·rw [if_neg (fun h=>h.2 q2)] at hP;rw [hP] at hI hpg;dsimp only at hI hpg;rw [if_pos rfl] at hI;rw [q2];simp only [go_sem,seval,List.map_nil,List.length_nil,aJ,hwc];(with_reducible and_intros)<;>first|exact .dq|omega|skip
   refine ah.step (t,ds++D1) hc ⟨by rw [hm2];exact hI,hpg,by simp;omega⟩ ?_;simp only [go_sem,seval]<;>simp
  have hgp:decide ((0:Int) < (g.length:Int))=true:=by
   have:g.length≠0:=fun h=>q2 (List.eq_nil_of_length_eq_zero h)
   simp;omega
  rw [if_pos ⟨rfl,q2⟩] at hP;rw [hP] at hI hpg;dsimp only at hI hpg;simp only [go_sem,seval,aJ,hgp];(with_reducible and_intros)<;>first|exact .dq|omega|skip
  refine aa.gen [] [0] false (by simp) ?_;simp only [go_sem,seval];refine aU.intro c2 ?_;simp only [go_sem,seval];(with_reducible and_intros)<;>first|exact .dq|omega|skip
  by_cases q3:PE=0
  ·have d:(PE==0)=true:=by simpa using q3
   rw [if_pos q3] at hI;simp only [go_sem,seval,bne,d,aJ,hwc];(with_reducible and_intros)<;>first|exact .dq|omega|skip
   refine ah.step (PS,ds++D1) hc ⟨by rw [hm2];exact hI,hpg,by simp;omega⟩ ?_;simp only [go_sem,seval]<;>simp
  ·have d:(PE==0)=false:=by simpa using q3
   rw [if_neg q3] at hI;rw [<- hI];simp only [go_sem,seval,bne,d]
   all_goals simp
 intro x _ hI;obtain ⟨t,ds⟩:=x;have hI:=hI.1;have hI:(t,ds,(0:Int))=R:=hI;subst hI;simp only [af.cells];simp only [go_sem,seval]
theorem Spec.Qd {P:Program} {f:FuncId} {hs ds hs':List D} {d:D} (h:Abs.Spec P f hs ds hs' d) (k:Nat) (hk:hs.length<=k) {hs2:List D} {d2:D} (hn:hs'.getD k .undef≠.undef) (hd:(BK k (vl [(0,d)] (so 0 hs'))).t 0=d2)
  (ho:∀ r,(BK k (vl [(0,d)] (so 0 hs'))).o r=hs2.getD r .undef) (hu:∀ i,i < hs.length->hs'.getD i .undef=.undef->hs2.getD i .undef=.undef):Abs.Spec P f hs ds hs2 d2:=by
 refine ⟨h.1,?_⟩;intro w l0 G0 own0 S0 vs hT hl0 hG hsz hr hobj;refine (h.2 w l0 G0 own0 S0 vs hT hl0 hG hsz hr hobj).mono ?_
 rintro e w' ⟨v,rfl,o⟩
 refine ⟨v,rfl,o.os,o.tape,o.output,o.size,o.old,o.part,?_⟩;obtain ⟨lev,own,S,h1,h2,h3,h4,h5⟩:=o.rep
 have hi:Inv w l0 G0 S w' lev own S (vl [(0,d)] (so 0 hs')) (fun j=>if j=0 then v else Go.undef):=by
  refine ⟨⟨o.os,hT⟩,o.tape,o.output,o.size,o.old,o.part,h1,h2,fun _ _ _=>rfl,?_,?_⟩
  ·intro s
   show aE _ _ (Abs.look [(0,d)] s)
   by_cases hs:s=0
   ·subst hs;simpa [Abs.look] using h3
   ·simp only [Abs.look,if_neg hs];exact .undef _
  ·intro r
   show kf _ _ _ _ _ _ r (Abs.look (so 0 hs') r)
   rw [oX];simpa using h4 r
 have hi':=(Inv.frz hi k).resolve_right (fun hq=>hn (by
  have hq:Abs.look (so 0 hs') k=.undef:=hq;rw [oX] at hq
  simpa using hq))
 refine ⟨_,own,je S k none,hi'.priv,hi'.iP,?_,?_,?_⟩
 ·have:=hi'.lU 0;rw [hd] at this;simpa using this
 ·intro r;have:=hi'.objs r
  rwa [ho] at this
 ·intro i hm hne;have:i≠k:=by omega
  simp only [je,this,if_false];exact h5 i hm fun hh=>hne (hu i hm hh)
def rF (s:af) (c:aZ):af × Int:=
 if within c.bg 1 1048576&&within c.aX 1 1073741824 then
  (if dQ s.aj c.who&&(dQ s.aj c.other&&br s.aj c.inst) then
   (if c.who=c.other then (s,16)
   else if (ew s.aj c.who).state=2/\(ew s.aj c.other).state=1 then
    (if 32<=s.bp.length then (s,9) else ({ s with bp:=s.bp++[⟨c.who,c.inst,c.other,c.bg,c.aX⟩] },0))
   else (s,14))
  else (s,10))
 else (s,3)
@[reducible] def af.zm (s:af) (r:Nat):List D:=[.int .i64 s.now,.int .i64 s.day,.int .i64 s.phase,.sl 3 (s.aj.ms.map ak.cells),.sl 12 (s.aj.ns.map ay.cells),.sl 4 (s.aj.xs.map au.cells),.int .i64 s.book.next,.sl 7 (s.book.ts.map aL.cells),.sl 4 (s.book.qs.map aB.cells),
 .int .i64 s.aW.last,.sl 4 (s.aW.bs.map bC.cells),.sl 3 (pl s.ps),.sl 4 (s.calls.map aA.cells),.ref r,.sl 7 (s.aN.map ck.cells)]
theorem Kn (s:af) (c:aZ) (h:s.good):Abs.Spec Tryz.prog 118 [.box (s.zm 1),.own 5 (s.bp.map bM.cells)] [.addr 0 0,.agg c.cells] [.box ((rF s c).1.zm 2),.undef,.own 5 ((rF s c).1.bp.map bM.cells)] (.int .i64 (rF s c).2):=by
 have c1:=gC c.bg 1 1048576;have c2:=gC c.aX 1 1073741824;have c3:=ct s.aj c.who h.small.aj.small;have c4:=ct s.aj c.other h.small.aj.small;have c5:=dz s.aj c.inst h.small.aj.small;have hbl:=h.bp;obtain ⟨R,hR⟩:=aH (rF s c);rw [<- hR];simp only [rF] at hR;obtain ⟨m,hm⟩:=aH (ew s.aj c.who);obtain ⟨m2,hm2⟩:∃ m,m=ew s.aj c.other:=⟨_,rfl⟩
 obtain ⟨mi,hmi⟩:∃ m,m=dQ s.aj c.who:=⟨_,rfl⟩
 obtain ⟨mi2,hmi2⟩:∃ m,m=dQ s.aj c.other:=⟨_,rfl⟩
 obtain ⟨ii,hii⟩:∃ m,m=br s.aj c.inst:=⟨_,rfl⟩
 obtain ⟨y,hy⟩:∃ m,m=bf s.aj c.inst:=⟨_,rfl⟩
 rw [<- hm,<- hmi] at c3;rw [<- hm2,<- hmi2] at c4;rw [<- hii,<- hy] at c5;rw [<- hm,<- hm2,<- hmi,<- hmi2,<- hii] at hR;clear hm hm2 hmi hmi2 hii hy;simp only [aq.cells] at c3 c4 c5;simp only [af.zm];simp only [aZ.cells];refine bu 101 2 [.tmp 4] mixed Tryz.func118 ?_;simp only [go_sem,seval];(with_reducible and_intros)<;>first|exact .dq|omega|skip
 refine aa.pure c1 ?_;cases b1:within c.bg 1 1048576
 ·rw [b1] at hR;have hR:R=(s,3):=hR;rw [hR];simp only [go_sem,seval]<;>simp
 rw [b1,Bool.true_and] at hR;simp only [go_sem,seval];(with_reducible and_intros)<;>first|exact .dq|omega|skip
 refine aa.pure c2 ?_;cases b2:within c.aX 1 1073741824
 ·rw [b2] at hR;have hR:R=(s,3):=hR;rw [hR];simp only [go_sem,seval]<;>simp
 rw [b2,if_pos rfl] at hR;simp only [go_sem,seval];(with_reducible and_intros)<;>first|exact .dq|omega|skip
 refine aa.pure c3 ?_;simp only [go_sem,seval];(with_reducible and_intros)<;>first|exact .dq|omega|skip
 refine aa.pure c4 ?_;simp only [go_sem,seval];(with_reducible and_intros)<;>first|exact .dq|omega|skip
 refine aa.pure c5 ?_;clear c1 c2 c3 c4 c5;cases b3:mi
 ·rw [b3] at hR;have hR:R=(s,10):=hR;rw [hR];simp only [go_sem,seval];(with_reducible and_intros)<;>first|exact .dq|omega|skip
 rw [b3,Bool.true_and] at hR;cases b4:mi2
 ·rw [b4] at hR;have hR:R=(s,10):=hR;rw [hR];simp only [go_sem,seval];(with_reducible and_intros)<;>first|exact .dq|omega|skip
 rw [b4,Bool.true_and] at hR;cases b5:ii
 ·rw [b5] at hR;have hR:R=(s,10):=hR;rw [hR];simp only [go_sem,seval];(with_reducible and_intros)<;>first|exact .dq|omega|skip
 rw [b5,if_pos rfl] at hR;simp only [go_sem,seval];(with_reducible and_intros)<;>first|exact .dq|omega|skip
 by_cases k1:c.who=c.other
 ·have d:(c.who==c.other)=true:=by simpa using k1
  rw [if_pos k1] at hR;rw [hR];simp only [go_sem,seval,d]<;>simp
 have d1:(c.who==c.other)=false:=by simpa using k1
 rw [if_neg k1] at hR;simp only [go_sem,seval,d1];(with_reducible and_intros)<;>first|exact .dq|omega|skip
 by_cases k2:m.state=2
 case neg =>
  have d:(m.state==2)=false:=by simpa using k2
  rw [if_neg (fun h=>k2 h.1)] at hR;rw [hR];simp only [go_sem,seval,bne,d]<;>simp
 have d2:(m.state==2)=true:=by simpa using k2
 simp only [go_sem,seval,bne,d2];(with_reducible and_intros)<;>first|exact .dq|omega|skip
 by_cases k3:m2.state=1
 case neg =>
  have d:(m2.state==1)=false:=by simpa using k3
  rw [if_neg (fun h=>k3 h.2)] at hR;rw [hR];simp only [go_sem,seval,d]<;>simp
 have d3:(m2.state==1)=true:=by simpa using k3
 rw [if_pos ⟨k2,k3⟩] at hR;simp only [go_sem,seval,d3,aJ];(with_reducible and_intros)<;>first|exact .dq|omega|skip
 by_cases k4:32<=s.bp.length
 ·have d4:decide ((32:Int)<=(s.bp.length:Int))=true:=by simp;omega
  rw [if_pos k4] at hR;rw [hR];simp only [go_sem,seval,d4]<;>simp
 have d4:decide ((32:Int)<=(s.bp.length:Int))=false:=by simp;omega
 rw [if_neg k4] at hR;rw [hR];simp only [go_sem,seval,d4,aJ];(with_reducible and_intros)<;>first|exact .dq|omega|skip
 all_goals simp
theorem HA (s:af) (c:aZ) (h:s.good):Abs.Spec Tryz.prog 118 [.box (s.zm 1),.own 5 (s.bp.map bM.cells)] [.addr 0 0,.agg c.cells] [.box (rF s c).1.cells,.undef] (.int .i64 (rF s c).2):=by
 refine Spec.Qd (Kn s c h) 2 (Nat.le_refl _) (by simp) rfl ?_ ?_
 ·intro r;rcases r with _ | _ | _ | r<;>rfl
 ·intro i hi hu;rcases i with _ | _ | i
  ·simp at hu
  ·rfl
  ·simp at hi;omega
theorem Cm (s:af) (h:s.good):Abs.Spec Tryz.prog 120 [.box s.cells] [.addr 0 0] [.box (kR 3 0 s []).1.cells] (.bI [.sl 3 ((kR 3 0 s []).2.1.map aQ.cells),.int .i64 (kR 3 0 s []).2.2]):=by
 refine Spec.Qd (DT s h) 1 (Nat.le_refl _) (by simp) rfl ?_ ?_
 ·intro r;rcases r with _ | _ | r<;>rfl
 ·intro i hi hu;rcases i with _ | i
  ·simp at hu
  ·simp at hi
theorem ae5 (n0 n1 n2 n3 n4:Int) (r0 r1 r2 r3 r4 r5 r6 r7 r8 r9:List (List D)):(fM [0,1,2,3,4,5,6,7,9] (vl [(0,.agg [.int .i64 n0,.int .i64 n1,.int .i64 n2,.ref 0,.ref 1,.ref 2,.int .i64 n3,.ref 3,.ref 4,.int .i64 n4,.ref 5,.ref 6,.ref 7,.ref 8,.ref 9])] (so 0 [.own 3 r0,.own 12 r1,.own 4 r2,.own 7 r3,.own 4 r4,.own 4 r5,.own 3 r6,.own 4 r7,.own 5 r8,.own 7 r9]))).t 0=.agg [.int .i64 n0,.int .i64 n1,.int .i64 n2,.sl 3 r0,.sl 12 r1,.sl 4 r2,.int .i64 n3,.sl 7 r3,.sl 4 r4,.int .i64 n4,.sl 4 r5,.sl 3 r6,.sl 4 r7,.ref 8,.sl 7 r9]:=by
 kernel_rfl
theorem aax (d:D) (r0 r1 r2 r3 r4 r5 r6 r7 r8 r9:List (List D)) (r:Nat):(fM [0,1,2,3,4,5,6,7,9] (vl [(0,d)] (so 0 [.own 3 r0,.own 12 r1,.own 4 r2,.own 7 r3,.own 4 r4,.own 4 r5,.own 3 r6,.own 4 r7,.own 5 r8,.own 7 r9]))).o r=[D.undef,.undef,.undef,.undef,.undef,.undef,.undef,.undef,.own 5 r8].getD r .undef:=by
 rcases r with _ | _ | _ | _ | _ | _ | _ | _ | _ | _ | r<;>kernel_rfl
theorem NN (s:af) (hs:s.small):Abs.Spec Tryz.prog 52 [] [.agg s.cells] [.undef,.undef,.undef,.undef,.undef,.undef,.undef,.undef,.own 5 (s.bp.map bM.cells)] (.agg (s.zm 8)):=by
 have h:=om s hs;simp only [LB,F5] at h;simp only [af.zm];simp only [af.cells] at h |-;exact Spec.frozen h [0,1,2,3,4,5,6,7,9] (ae5 ..) (fun r=>aax ..)
end Go.Proofs.YtnkobepdbkmedaaGreatDoor
