/- The reference's close: the whole, and what follows. No theorem of a claim. -/
import Derived.Test.YtnkobepdbkmedaaGreatKG
import Derived.Test.YtnkobepdbkmedaaGreatKE
set_option linter.unusedSimpArgs false
set_option linter.unusedVariables false
set_option maxHeartbeats 4000000
set_option maxRecDepth 16000
namespace Go.Proofs.YtnkobepdbkmedaaGreat
open Go.Abs
def yf {A:Type} (f:Nat->A) (n:Nat):List A:=(List.range n).map f
theorem Iy {A:Type} (f:Nat->A):yf f 0=[]:=rfl
theorem CI {A:Type} (f:Nat->A) (n:Nat):yf f (n+1)=yf f n++[f n]:=by simp [yf,List.range_succ]
theorem oG {A:Type} (f:Nat->A) (n:Nat):(yf f n).length=n:=by simp [yf]
def gQ (f:Nat->Int):Nat->Nat->Int
 | 0,_=>0
 | m+1,i=>if f i=0 then gQ f m (i+1) else f i
def af.zero:af:=⟨0,0,0,⟨[],[],[]⟩,⟨0,[],[]⟩,⟨0,[]⟩,[],[],[],[]⟩
def bL (s:af) (w:Int) (c:Nat):Int:=ji w c (qq s w)
def zj (s:af) (w:Int) (c:Nat):Int:=kP w c (qq s w)
def fV (s:af) (w:Int) (c:Nat):List Int:=rX s w c (bL s w c)
def gj (s:af) (w:Int) (c:Nat):dM:=tj c (yR s w c (bL s w c)) (fV s w c)
def uE (s:af) (w:Int) (c:Nat):Int:=if oP s w c (bL s w c)=0 then mS c (yR s w c (bL s w c)) (fV s w c) else oP s w c (bL s w c)
def iu (s:af) (w:Int) (c:Nat):List aW × Int × Int:=kK s w c (bL s w c) (gj s w c) ((fV s w c).getD 0 0) ((fV s w c).getD 1 0)
def nextId (l:bq):Int:=IntKind.wrap .i64 (l.last+1)
def fu (l:bq) (g:List aW) (e:Int):bq × Int:=if e=0/\g≠[] then (gF l (nextId l) g,eI l (nextId l) g) else (l,e)
def mI (w:Int) (c:Nat) (n:Int):List aN:=if n==0 then [] else [⟨w,c,n⟩]
def ni (s:af) (w:Int):Nat->Nat->bq->List aN->bq × List aN × Int
 | 0,_,l,p=>(l,p,0)
 | m+1,i,l,p =>
  if (fu l (iu s w i).1 (iu s w i).2.2).2=0 then ni s w m (i+1) (fu l (iu s w i).1 (iu s w i).2.2).1 (p++mI w i (iu s w i).2.1)
  else (l,p,(fu l (iu s w i).1 (iu s w i).2.2).2)
def pF (w:Int) (l:List eO):List eO:=l.flatMap fun p=>if p.who==w then [] else [p]
def pE (w:Int) (l:List bu):List bu:=l.flatMap fun b=>if b.who==w||b.src==w then [] else [b]
def uv (s:af) (w:Int):Int:=
 if nU s w=0 then (if gQ (zj s w) 3 0=0 then (if gQ (uE s w) 3 0=0 then (ni s w 3 0 s.aU []).2.2 else gQ (uE s w) 3 0) else gQ (zj s w) 3 0) else nU s w
def lT (s:af) (w:Int):af:=
 if uv s w=0 then { s with aj:=lR s.aj w 3,book:=oL s w,aU:=(ni s w 3 0 s.aU []).1,ps:=pF w s.ps,calls:=ew s.calls [w],aX:=pE w s.aX } else .zero
def FU (s:af) (w:Int):List dM:=if uv s w=0 then yf (gj s w) 3 else []
def FN (s:af) (w:Int):List aN:=if uv s w=0 then (ni s w 3 0 s.aU []).2.1 else []
theorem NW (s:af) (w:Int) (l:List aA):(oQ s w l).length<=l.length:=by
 have:=fm (f:=K8 s w) (m:=1) (fun p=>by unfold K8;split<;>simp) l;simpa [oQ] using this
theorem OD (s:af) (w:Int) (h:s.cE) (hs:s.small) (hq:s.book.qs.length < 2 ^ 20):(qq s w).length < 2 ^ 20:=by
 unfold qq;split
 ·rename_i he;unfold nU at he;split at he
  ·rename_i hm;have hb:=(oV (tQ hm).1).2.1;have:=(ya (s:=s) (w:=w) 8 0 (EA hb hs.book hq h.qs)).short;have h2:=NW s w (mo s w 8 0 s.book).1.qs;omega
  ·rename_i hm;exact absurd he hm
 ·simp
theorem NL {s:af} {w c g:Int} (h:oP s w c g=0):∃ a b rest,rX s w c g=a :: b :: rest/\rest.length=3:=by
 refine ⟨_,_,_,by rw [rX,if_pos h],rfl⟩
theorem Qe {c gM:Int} {caps:List Int} {a b:Int} {rest:List Int} (h:mS c gM caps=0) (hc:caps=a :: b :: rest):eW (a-(tj c gM caps).c0)/\eW (b-(tj c gM caps).c1):=by
 simp only [tj,if_pos h,LU];unfold mS at h;split at h
 ·rename_i hk;simp only [bZ,beq_iff_eq] at hk;have hg:=hk.2.2;unfold rZ at hg;split at hg
  ·rename_i h1;simp only [bZ,Bool.not_eq_true',decide_eq_false_iff_not] at h1;split at hg
   ·rename_i h2;have ha:=List.all_eq_true.1 h1.2 a (by rw [hc];simp);have hb:=List.all_eq_true.1 h1.2 b (by rw [hc];simp);have ha2:=List.all_eq_true.1 h2 a (by rw [hc];simp);have hb2:=List.all_eq_true.1 h2 b (by rw [hc];simp);simp only [Bool.not_eq_true',decide_eq_false_iff_not] at ha2 hb2;have ha:=cm.1 ha;have hb:=cm.1 hb;rw [hc];simp only [xB,List.getD_cons_zero,List.getD_cons_succ];exact ⟨⟨by omega,by omega⟩,⟨by omega,by omega⟩⟩
   ·cases hg
  ·cases hg
 ·cases h
theorem vB {f:Nat->Int}:∀ {m i:Nat},gQ f m i=0->∀ c,i<=c->c < i+m->f c=0
 | 0,i,_,c,h1,h2=>by omega
 | m+1,i,h,c,h1,h2=>by
  simp only [gQ] at h;split at h
  ·rename_i h0;rcases Nat.lt_or_ge i c with h3 | h3
   ·exact vB h c (by omega) (by omega)
   ·obtain rfl:c=i:=by omega
    exact h0
  ·rename_i h0;exact absurd h h0
theorem Ck {l:bq} {id:Int} {g:List aW}:(gF l id g).bs.length<=306/\∀ b∈(gF l id g).bs,b.cE:=by
 unfold gF;split
 ·rename_i h;refine ⟨Nat.le_trans (Ib _ _ _) wE,?_⟩
  have hin:wH l g gE=true:=by
   unfold eI at h;split at h
   ·split at h
    ·split at h
     ·cases h
     ·split at h
      ·split at h
       ·assumption
       ·cases h
      ·rename_i h2;exact absurd h h2
    ·cases h
   ·cases h
  intro b hb;obtain ⟨a,ha,hb⟩:=List.mem_flatMap.1 hb;unfold qg at hb;split at hb
  ·cases hb
  ·obtain rfl:=List.mem_singleton.1 hb;have hs:=List.all_eq_true.1 hin a ha
   have har:eW a.kind/\eW a.who/\eW a.cur:=by
    obtain ⟨k,hk,ha⟩:=List.mem_flatMap.1 ha;obtain ⟨w,hw,ha⟩:=List.mem_flatMap.1 ha;obtain ⟨c,hc,ha⟩:=List.mem_flatMap.1 ha;have h1:=List.mem_range.1 hk;have h2:=List.mem_range.1 hw;have h3:=List.mem_range.1 hc;unfold acc at ha;split at ha
    ·obtain rfl:=List.mem_singleton.1 ha;exact ⟨⟨by dsimp only;omega,by dsimp only;omega⟩,⟨by dsimp only;omega,by dsimp only;omega⟩,⟨by dsimp only;omega,by dsimp only;omega⟩⟩
    ·cases ha
   exact ⟨har.1,har.2.1,har.2.2,nR hs⟩
 ·exact ⟨by simp,by simp⟩
def bq.fZ (l:bq):Prop:=l.bs.length < 2 ^ 29/\(∀ b∈l.bs,b.cE)/\eW l.last
theorem PV {l:bq} {id:Int} {g:List aW} (h:eI l id g=0):1<=id/\id<=1099511627776:=by
 unfold eI at h;split at h
 ·split at h
  ·rename_i h1;simpa [within] using h1
  ·cases h
 ·cases h
theorem Ex {l:bq} {id:Int} {g:List aW}:(gF l id g).fZ:=by
 refine ⟨Nat.lt_of_le_of_lt Ck.1 (by decide),Ck.2,?_⟩;unfold gF;split
 ·rename_i h;have:=PV h;exact ⟨by dsimp only;omega,by dsimp only;omega⟩
 ·exact ⟨by decide,by decide⟩
theorem Jk {l:bq} (h:l.fZ) (g:List aW) (e:Int):(fu l g e).1.fZ:=by
 unfold fu;split
 ·exact Ex
 ·exact h
theorem LB (w:Int) (l:List eO):(pF w l).length<=l.length:=by
 have:=fm (f:=fun p:eO=>if p.who==w then [] else [p]) (m:=1) (fun p=>by split<;>simp) l;simpa [pF] using this
theorem Cn (w:Int) (l:List bu):(pE w l).length<=l.length:=by
 have:=fm (f:=fun b:bu=>if b.who==w||b.src==w then [] else [b]) (m:=1) (fun p=>by split<;>simp) l;simpa [pE] using this
def jz (l:List (List Int)):List (List D):=l.map fun x=>[.sl 1 (ints x)]
theorem yO (l:List (List Int)):(jz l).length=l.length:=by simp [jz]
theorem L7 (l:List (List Int)) {i:Nat} (h:i < l.length):(jz l).getD i []=[.sl 1 (ints l[i])]:=by simp [jz,h]
theorem Lu (s:af) (w:Int) (hs:s.small) (hr:s.cE) (hm:s.aj.ms.length < 2 ^ 27) (hq:s.book.qs.length < 2 ^ 20) (hbl:s.aX.length < 2 ^ 20) (hlb:s.aU.bs.length < 2 ^ 29) :
  Abs.Spec Tryz.prog 67 [] [.agg s.cells,.int .i64 w] [.own 3 (pl (lT s w).ps),.own 5 ((lT s w).aX.map bu.cells),.own 8 ((FU s w).map dM.cells),.own 3 ((FN s w).map aN.cells)]
   (.bI [.agg [.int .i64 (lT s w).now,.int .i64 (lT s w).day,.int .i64 (lT s w).phase,.sl 3 ((lT s w).aj.ms.map ak.cells),.sl 12 ((lT s w).aj.ns.map aq.cells),.sl 4 ((lT s w).aj.xs.map av.cells),.int .i64 (lT s w).book.next,.sl 7 ((lT s w).book.ts.map aI.cells),.sl 4 ((lT s w).book.qs.map aA.cells),
    .int .i64 (lT s w).aU.last,.sl 4 ((lT s w).aU.bs.map bp.cells),.ref 0,.sl 4 ((lT s w).calls.map aB.cells),.ref 1,.sl 7 ((lT s w).aJ.map bE.cells)],.ref 2,.ref 3,.int .i64 (uv s w)]):=by
 have c1:=wT s w hs hr hq hbl;have c2:=aP s hs;have hDl:=OD s w hr hs hq;have cG:=fun c=>uF w c (qq s w) (by omega)
 have cC:=fun c g=>G1 s w c g hs hr hm
 have cF:=fun c gM caps h=>FQ c gM caps h
 have cX:=fun c g f caps a b rest h1 h2=>Bt s w c g f caps a b rest h1 h2 hs hr hm
 have cP:=fun l id g (h1:l.bs.length < 2 ^ 30) h2 h3=>pM l id g h1 h2 h3
 have cPut:=y9 s.aj w 3 hs.aj;have cW:=Af s.calls [w] hs.calls (by simp)
 have hpE:nU s w=0->br s=true:=fun h=>by
  unfold nU at h;split at h
  ·rename_i hm;exact (tQ hm).1
  ·rename_i hm;exact absurd h hm
 obtain ⟨E,hE⟩:=aL (uv s w);have hE0:=hE;simp only [uv] at hE;simp only [lT,FU,FN,<- hE0];obtain ⟨pe,hpe⟩:=aL (nU s w);rw [<- hpe] at c1 hpE hE;simp only [af.cells] at c1 c2 cC cX |-;simp only [aF.cells] at c1;simp only [bq.cells] at cP;simp only [au.cells] at cPut;simp only [dM.cells] at cF cX;simp only [ints,List.map_cons,List.map_nil] at cW;clear hE0;refine bg 241 2 [.cell 4 42,.tmp 5,.tmp 6,.tmp 7] mixed Tryz.func67 ?_;simp only [go_sem,seval];(with_reducible and_intros)<;>first|exact .dq|omega|skip
 refine aa.pure c1 ?_;clear c1
 by_cases b1:pe=0
 case neg =>
  have d:(pe==0)=false:=by simpa using b1
  rw [if_neg b1] at hE;rw [hE];simp only [if_neg b1];simp only [go_sem,seval,bne,d];(with_reducible and_intros)<;>first|exact .dq|omega|skip
  all_goals simp [af.zero,pl]
 obtain ⟨hroll,_,_,hps,_⟩:=oV (hpE b1);have cX:=fun c g f caps a b rest h1 h2=>cX c g f caps a b rest h1 h2 hroll hps
 rw [if_pos b1] at hE;rw [b1];clear hpE hpe b1;simp only [go_sem,seval];(with_reducible and_intros)<;>first|exact .dq|omega|skip
 refine aa.pure c2 ?_;clear c2;simp only [go_sem,seval];(with_reducible and_intros)<;>first|exact .dq|omega|skip
 obtain ⟨F1,hF1⟩:=aL (gQ (zj s w) 3 0);rw [<- hF1] at hE;refine aC.walk (S:=Unit) 3 [1,2,4,8,9,10,12,13,14] [48,80,144,160,208] (fun i _=>[(16,.int .i64 i),(15,.ref 1024)]) (fun i _=>[(1024,.own 1 (ints (yf (bL s w) i)))]) (fun i _=>gQ (zj s w) (3-i) i=F1) () hF1.symm ?_ ?_ ?_
 ·simp only [go_sem,seval,Iy]<;>simp [ints]
 ·intro c _ hc hdc hwc hI;have hdc:decide ((c:Int) < 3)=true:=hdc;obtain ⟨m,hm⟩:∃ m,3-c=m+1:=⟨3-c-1,by omega⟩
  have hm2:3-(c+1)=m:=by omega
  rw [hm] at hI;simp only [gQ] at hI;have cGc:=cG c;have e1:kP w c (qq s w)=zj s w c:=rfl;have e2:ji w c (qq s w)=bL s w c:=rfl;rw [e1,e2] at cGc;have hst:=CI (bL s w) c;have hlen:=oG (bL s w) c;have hstI:ints (yf (bL s w) (c+1))=ints (yf (bL s w) c)++[[.int .i64 (bL s w c)]]:=by rw [hst];simp only [ints,List.map_append,List.map_cons,List.map_nil]
  obtain ⟨T,hT⟩:=aL (yf (bL s w) c);rw [<- hT] at hstI hlen |-;clear cG cC cF cX cP cPut cW hst hT e1 e2;simp only [go_sem,seval,hdc];(with_reducible and_intros)<;>first|exact .dq|omega|skip
  refine aa.pure cGc ?_
  by_cases q:zj s w c=0
  ·rw [if_pos q] at hI;rw [q];simp only [go_sem,seval,bne,ay,hlen,hwc];(with_reducible and_intros)<;>first|exact .dq|omega|skip
   refine ah.step () hc (by rw [hm2];exact hI) ?_;simp only [go_sem,seval,hstI]
  ·have d:(zj s w c==0)=false:=by simpa using q
   rw [if_neg q] at hI;rw [<- hI,if_neg q] at hE;rw [hE];simp only [if_neg q];simp only [go_sem,seval,bne,d];(with_reducible and_intros)<;>first|exact .dq|omega|skip
   all_goals simp [af.zero,pl]
 intro _ _ hI;have hI:F1=0:=hI.symm;rw [if_pos hI] at hE;clear cG hI;have hGl:=oG (bL s w) 3;have hGat:∀ c,c < 3->(yf (bL s w) 3)[c]?=some (bL s w c):=fun c h=>by simp [yf,h]
 obtain ⟨GS,hGS⟩:=aL (yf (bL s w) 3);simp only [<- hGS] at hGl hGat;rw [<- hGS];clear hGS;simp only [go_sem,seval];(with_reducible and_intros)<;>first|exact .dq|omega|skip
 obtain ⟨F2,hF2⟩:=aL (gQ (uE s w) 3 0);rw [<- hF2] at hE;refine aC.walk (S:=Unit) 3 [1,2,4,8,9,12,14,15] [48,80,144,160,208,1024] (fun i _=>[(20,.int .i64 i),(13,.ref 1584),(19,.ref 1648)]) (fun i _=>[(1584,.own 8 ((yf (gj s w) i).map dM.cells)),(1648,.own 1 (jz (yf (fV s w) i)))]) (fun i _=>gQ (uE s w) (3-i) i=F2) () hF2.symm ?_ ?_ ?_
 ·simp only [go_sem,seval,Iy]<;>simp [jz]
 ·intro c _ hc hdc hwc hI;have hdc:decide ((c:Int) < 3)=true:=hdc;obtain ⟨m,hm⟩:∃ m,3-c=m+1:=⟨3-c-1,by omega⟩
  have hm2:3-(c+1)=m:=by omega
  rw [hm] at hI;simp only [gQ] at hI;have hcg:c < GS.length:=by omega
  have hmg:=ints_at GS hcg
  have hga:GS[c]=bL s w c:=by
   have:=hGat c hc;rw [List.getElem?_eq_getElem hcg] at this;exact Option.some.inj this
  rw [hga] at hmg;have hlc:(c:Int) < (GS.length:Int):=by omega
  have cCc:=cC c (bL s w c);have hcl:(rX s w c (bL s w c)).length < 2 ^ 30:=by unfold rX;split<;>simp
  have cFc:=cF c (yR s w c (bL s w c)) (rX s w c (bL s w c)) hcl;have hCE:uE s w c=if oP s w c (bL s w c)=0 then mS c (yR s w c (bL s w c)) (rX s w c (bL s w c)) else oP s w c (bL s w c):=rfl
  have e1:tj c (yR s w c (bL s w c)) (rX s w c (bL s w c))=gj s w c:=rfl;have hst1:=CI (gj s w) c;have hst2:=CI (fV s w) c;have hst2':jz (yf (fV s w) (c+1))=jz (yf (fV s w) c)++[[.sl 1 (ints (rX s w c (bL s w c)))]]:=by rw [hst2];simp only [jz,List.map_append,List.map_cons,List.map_nil,fV]
  have hl1:=oG (gj s w) c;have hl2:=oG (fV s w) c;rw [e1] at cFc;obtain ⟨T,hT⟩:=aL (yf (gj s w) c);obtain ⟨U,hU⟩:=aL (yf (fV s w) c);rw [<- hT] at hst1 hl1;rw [<- hU] at hst2' hl2;rw [<- hT,<- hU];obtain ⟨fl,hfl⟩:=aL (gj s w c);rw [<- hfl] at cFc hst1;clear cC cF cX cP cPut cW hst2 hT hU e1 hGat;simp only [go_sem,seval,hdc,ay,hmg];(with_reducible and_intros)<;>first|exact .dq|omega|skip
  refine aa.pure cCc ?_
  by_cases q:oP s w c (bL s w c)=0
  case neg =>
   have d:(oP s w c (bL s w c)==0)=false:=by simpa using q
   rw [if_neg q] at hCE;rw [hCE,if_neg q] at hI;rw [<- hI,if_neg q] at hE;rw [hE];simp only [if_neg q];simp only [go_sem,seval,bne,d];(with_reducible and_intros)<;>first|exact .dq|omega|skip
   all_goals simp [af.zero,pl]
  rw [if_pos q] at hCE;rw [q];simp only [go_sem,seval];(with_reducible and_intros)<;>first|exact .dq|omega|skip
  refine aa.pure cFc ?_;rw [<- hCE]
  by_cases q2:uE s w c=0
  ·rw [if_pos q2] at hI;rw [q2];simp only [go_sem,seval,bne,aG,yO,hl1,hl2,hwc];(with_reducible and_intros)<;>first|exact .dq|omega|skip
   refine ah.step () hc (by rw [hm2];exact hI) ?_;simp only [go_sem,seval,hst1,hst2']<;>simp
  ·have d:(uE s w c==0)=false:=by simpa using q2
   rw [if_neg q2] at hI;rw [<- hI,if_neg q2] at hE;rw [hE];simp only [if_neg q2];simp only [go_sem,seval,bne,d];(with_reducible and_intros)<;>first|exact .dq|omega|skip
   all_goals simp [af.zero,pl]
 intro _ _ hI;have hI:F2=0:=hI.symm;rw [if_pos hI] at hE;have hCE0:∀ c < 3,uE s w c=0:=fun c h=>vB (hF2.symm.trans hI) c (by omega) (by omega)
 clear cC cF hI;have hFl:=oG (gj s w) 3;have hFat:∀ c,c < 3->(yf (gj s w) 3)[c]?=some (gj s w c):=fun c h=>by simp [yf,h]
 have hCl:(jz (yf (fV s w) 3)).length=3:=by rw [yO,oG]
 have hCat:∀ c,c < 3->(jz (yf (fV s w) 3)).getD c []=[.sl 1 (ints (fV s w c))]:=fun c h=>by
  rw [L7 _ (by rw [oG];exact h)];simp [yf]
 obtain ⟨FS,hFS⟩:=aL (yf (gj s w) 3);simp only [<- hFS] at hFl hFat;obtain ⟨CS,hCS⟩:=aL (jz (yf (fV s w) 3));simp only [<- hCS] at hCl hCat;rw [<- hCS];obtain ⟨R,hR⟩:=aL (ni s w 3 0 s.aU []);simp only [<- hR] at hE |-;clear hCS;have hlf:s.aU.fZ:=⟨hlb,hr.bs,hr.last⟩
 simp only [go_sem,seval,<- hFS];(with_reducible and_intros)<;>first|exact .dq|omega|skip
 refine aC.walk (S:=bq × List aN) 3 [1,2,4,8,9,12,13,15,19] [48,80,144,160,1024,1584,1648] (fun i _=>[(25,.int .i64 i),(14,.ref 2544)])
  (fun _ x=>[(208,.box [.int .i64 s.now,.int .i64 s.day,.int .i64 s.phase,.sl 3 (s.aj.ms.map ak.cells),.sl 12 (s.aj.ns.map aq.cells),.sl 4 (s.aj.xs.map av.cells),.int .i64 s.book.next,.sl 7 (s.book.ts.map aI.cells),.sl 4 (s.book.qs.map aA.cells),
   .int .i64 x.1.last,.sl 4 (x.1.bs.map bp.cells),.sl 3 (pl s.ps),.sl 4 (s.calls.map aB.cells),.sl 5 (s.aX.map bu.cells),.sl 7 (s.aJ.map bE.cells)]),(2544,.own 3 (x.2.map aN.cells))])
  (fun i x=>ni s w (3-i) i x.1 x.2=R/\x.1.fZ/\x.2.length<=i) (s.aU,[]) ⟨hR.symm,hlf,Nat.le_refl _⟩ ?_ ?_ ?_
 ·simp only [go_sem,seval]<;>simp
 ·intro c x hc hdc hwc hI;obtain ⟨L,p⟩:=x;obtain ⟨hI,hLf,hpl⟩:=hI;dsimp only at hI hLf hpl |-;have hdc:decide ((c:Int) < 3)=true:=hdc;obtain ⟨m,hm⟩:∃ m,3-c=m+1:=⟨3-c-1,by omega⟩
  have hm2:3-(c+1)=m:=by omega
  rw [hm] at hI;simp only [ni] at hI;have hcg:c < GS.length:=by omega
  have hcf:c < FS.length:=by omega
  have hmg:=ints_at GS hcg
  have hga:GS[c]=bL s w c:=by
   have:=hGat c hc;rw [List.getElem?_eq_getElem hcg] at this;exact Option.some.inj this
  rw [hga] at hmg;have hmf:=aD (c:=dM.cells) FS hcf
  have hfa:FS[c]=gj s w c:=by
   have:=hFat c hc;rw [List.getElem?_eq_getElem hcf] at this;exact Option.some.inj this
  rw [hfa] at hmf;have hmc:=hCat c hc;have hlc:(c:Int) < (GS.length:Int):=by omega
  have hlf:(c:Int) < (FS.length:Int):=by omega
  have hlk:(c:Int) < (CS.length:Int):=by omega
  have hc0:=hCE0 c hc;unfold uE at hc0
  have hcE:oP s w c (bL s w c)=0:=by
   split at hc0
   ·assumption
   ·exact hc0
  rw [if_pos hcE] at hc0;obtain ⟨a,b,rest,ho,hrl⟩:=NL hcE;have ho:fV s w c=a :: b :: rest:=ho;obtain ⟨hx,hy⟩:=Qe hc0 ho;have cXc:=cX c (bL s w c) (gj s w c) (fV s w c) a b rest ho (by omega) hx hy;have hA:iu s w c=kK s w c (bL s w c) (gj s w c) a b:=by unfold iu;rw [ho];rfl
  rw [<- hA] at cXc
  have hgl:(iu s w c).1.length<=306:=by
   rw [hA];unfold kK;split
   ·split
    ·split
     ·exact uh _
     ·simp
    ·simp
   ·simp
  have cPc:=fun h=>cP L (nextId L) (iu s w c).1 (by have:=hLf.1;omega) hLf.2.1 h
  have cPc:=cPc (by omega);simp only [nextId] at cPc;have hPf:=Jk hLf (iu s w c).1 (iu s w c).2.2;obtain ⟨g,hg⟩:=aL ((iu s w c).1);obtain ⟨n,hn⟩:=aL ((iu s w c).2.1);obtain ⟨e,he⟩:=aL ((iu s w c).2.2);simp only [<- hg,<- hn,<- he] at cXc cPc hPf hI hgl;obtain ⟨fl,hfl⟩:=aL (gj s w c);rw [<- hfl] at hmf cXc;simp only [dM.cells] at hmf;clear cX cP hA hg hn he hGat hFat hCat hx hy hc0 hcE hCE0 cPut cW hfl;simp only [go_sem,seval,hdc,ay,aG,hmg,hmf,hmc];(with_reducible and_intros)<;>first|exact .dq|omega|skip
  refine aa.pure cXc ?_
  by_cases q1:e=0
  case neg =>
   have d:(e==0)=false:=by simpa using q1
   have hp0:fu L g e=(L,e):=by simp [fu,q1]
   rw [hp0] at hI;dsimp only at hI;rw [if_neg q1] at hI;rw [hE,<- hI];simp only [if_neg q1];simp only [go_sem,seval,bne,d];(with_reducible and_intros)<;>first|exact .dq|omega|skip
   all_goals simp [af.zero,pl]
  rw [q1] at hI hPf |-
  by_cases q2:g=[]
  ·have hp0:fu L g 0=(L,0):=by simp [fu,q2]
   rw [hp0] at hI hPf;dsimp only at hI hPf;rw [if_pos rfl] at hI;rw [q2];simp only [go_sem,seval,List.map_nil,List.length_nil];(with_reducible and_intros)<;>first|exact .dq|omega|skip
   by_cases q3:n=0
   ·have hI:ni s w m (c+1) L p=R:=by rw [<- hI];simp [mI,q3]
    rw [q3];simp only [go_sem,seval,bne,hwc];(with_reducible and_intros)<;>first|exact .dq|omega|skip
    refine ah.step (L,p) hc ⟨by rw [hm2];exact hI,hPf,by dsimp only;omega⟩ ?_;simp only [go_sem,seval]<;>simp
   ·have d:(n==0)=false:=by simpa using q3
    have hI:ni s w m (c+1) L (p++[⟨w,c,n⟩])=R:=by rw [<- hI];simp [mI,q3]
    simp only [go_sem,seval,bne,d,hwc,aG];(with_reducible and_intros)<;>first|exact .dq|omega|skip
    refine ah.step (L,p++[⟨w,c,n⟩]) hc ⟨by rw [hm2];exact hI,hPf,by simp;omega⟩ ?_;simp only [go_sem,seval]<;>simp
  have hgp:decide ((0:Int) < (g.length:Int))=true:=by
   have:g.length≠0:=fun h=>q2 (List.eq_nil_of_length_eq_zero h)
   simp;omega
  have hp0:fu L g 0=(gF L (nextId L) g,eI L (nextId L) g):=by simp [fu,q2]
  simp only [nextId] at hp0;obtain ⟨M,hM⟩:=aL (gF L (IntKind.wrap .i64 (L.last+1)) g);obtain ⟨e2,he2⟩:=aL (eI L (IntKind.wrap .i64 (L.last+1)) g);rw [<- hM,<- he2] at hp0 cPc;rw [hp0] at hI hPf;dsimp only at hI hPf;simp only [go_sem,seval,aG,hgp];(with_reducible and_intros)<;>first|exact .dq|omega|skip
  refine aa.pure cPc ?_;clear cPc hM he2 cXc
  by_cases q4:e2=0
  case neg =>
   have d:(e2==0)=false:=by simpa using q4
   rw [if_neg q4] at hI;rw [hE,<- hI];simp only [if_neg q4];simp only [go_sem,seval,bne,d];(with_reducible and_intros)<;>first|exact .dq|omega|skip
   all_goals simp [af.zero,pl]
  rw [q4] at hI |-;rw [if_pos rfl] at hI;simp only [go_sem,seval];(with_reducible and_intros)<;>first|exact .dq|omega|skip
  by_cases q3:n=0
  ·have hI:ni s w m (c+1) M p=R:=by rw [<- hI];simp [mI,q3]
   rw [q3];simp only [go_sem,seval,bne,hwc];(with_reducible and_intros)<;>first|exact .dq|omega|skip
   refine ah.step (M,p) hc ⟨by rw [hm2];exact hI,hPf,by dsimp only;omega⟩ ?_;simp only [go_sem,seval]<;>simp
  ·have d:(n==0)=false:=by simpa using q3
   have hI:ni s w m (c+1) M (p++[⟨w,c,n⟩])=R:=by rw [<- hI];simp [mI,q3]
   simp only [go_sem,seval,bne,d,hwc,aG];(with_reducible and_intros)<;>first|exact .dq|omega|skip
   refine ah.step (M,p++[⟨w,c,n⟩]) hc ⟨by rw [hm2];exact hI,hPf,by simp;omega⟩ ?_;simp only [go_sem,seval]<;>simp
 rintro ⟨L,p⟩ _ ⟨hI,hLf,hpl⟩
 have hI:(L,p,(0:Int))=R:=hI;subst hI;dsimp only at hE hLf hpl |-;rw [hE];clear hE cX cP hGat hFat hCat hCE0 hGl hCl hlf hF1 hF2 hR;simp only [go_sem,seval];(with_reducible and_intros)<;>first|exact .dq|omega|skip
 refine aa.pure cPut ?_;simp only [go_sem,seval];(with_reducible and_intros)<;>first|exact .dq|omega|skip
 refine aa.gen [2768] [] false (by simp) ?_;simp only [go_sem,seval];refine aY.intro cW ?_;clear cPut cW;have hpsl:=hs.ps;obtain ⟨PU,hPU⟩:=aL (lR s.aj w 3);obtain ⟨PB,hPB⟩:=aL (oL s w);obtain ⟨WL,hWL⟩:=aL (ew s.calls [w]);rw [<- hPU,<- hPB,<- hWL];clear hPU hPB hWL;simp only [go_sem,seval];(with_reducible and_intros)<;>first|exact .dq|omega|skip
 refine aC.walk (S:=Unit) s.ps.length [1,2,4,12,13,14] [48,80,1584,2544] (fun i _=>[(29,.int .i64 i)])
  (fun i _=>[(208,.box [.int .i64 s.now,.int .i64 s.day,.int .i64 s.phase,.sl 3 (PU.ms.map ak.cells),.sl 12 (PU.ns.map aq.cells),.sl 4 (PU.xs.map av.cells),.int .i64 PB.next,.sl 7 (PB.ts.map aI.cells),.sl 4 (PB.qs.map aA.cells),
   .int .i64 L.last,.sl 4 (L.bs.map bp.cells),.ref 3200,.sl 4 (WL.map aB.cells),.sl 5 (s.aX.map bu.cells),.sl 7 (s.aJ.map bE.cells)]),(3200,.own 3 (pl (pF w (s.ps.take i))))])
  (fun _ _=>True) () trivial ?_ ?_ ?_
 ·simp only [go_sem,seval]<;>simp [pF,pl]
 ·intro i _ hi hdi hwi _;have hm:=mT s.ps hi;have hli:(i:Int) < (s.ps.length:Int):=by omega
  have hlt:(s.ps.take i).length=i:=by simp;omega
  have hs1:pF w (s.ps.take (i+1))=pF w (s.ps.take i)++_:=gl _ hi;have hkl:=LB w (s.ps.take i);obtain ⟨x,hx⟩:=aL (s.ps[i]);rw [<- hx] at hm hs1;obtain ⟨K,hK⟩:=aL (pF w (s.ps.take i));rw [<- hK] at hs1 hkl;rw [<- hK];have hp2:pl (K++[x])=pl K++[[.int .i64 x.who,.int .i64 x.bG,.int .i64 x.units]]:=by simp [pl,eO.cells]
  cases q1:x.who==w
  ·simp only [q1,fY,if_false] at hs1;simp only [go_sem,seval,nY,hdi,hm,bne,q1,hwi];(with_reducible and_intros)<;>first|exact .dq|omega|skip
   refine ah.step () hi trivial ?_;simp only [go_sem,seval,hs1,hp2]<;>simp
  ·simp only [q1,if_true,List.append_nil] at hs1;simp only [go_sem,seval,nY,hdi,hm,bne,q1,hwi];(with_reducible and_intros)<;>first|exact .dq|omega|skip
   refine ah.step () hi trivial ?_;simp only [go_sem,seval,hs1]<;>simp
 intro _ hdx _;simp only [go_sem,seval,nY,hdx,List.take_length,aG];(with_reducible and_intros)<;>first|exact .dq|omega|skip
 have hbsl:=hs.aX
 refine aC.walk (S:=Unit) s.aX.length [1,2,4,12,13,14] [48,80,1584,2544,3200] (fun i _=>[(30,.int .i64 i)])
  (fun i _=>[(208,.box [.int .i64 s.now,.int .i64 s.day,.int .i64 s.phase,.sl 3 (PU.ms.map ak.cells),.sl 12 (PU.ns.map aq.cells),.sl 4 (PU.xs.map av.cells),.int .i64 PB.next,.sl 7 (PB.ts.map aI.cells),.sl 4 (PB.qs.map aA.cells),
   .int .i64 L.last,.sl 4 (L.bs.map bp.cells),.ref 3200,.sl 4 (WL.map aB.cells),.ref 3792,.sl 7 (s.aJ.map bE.cells)]),(3792,.own 5 ((pE w (s.aX.take i)).map bu.cells))])
  (fun _ _=>True) () trivial ?_ ?_ ?_
 ·simp only [go_sem,seval]<;>simp [pE]
 ·intro i _ hi hdi hwi _;have hm:=aD (c:=bu.cells) s.aX hi;have hli:(i:Int) < (s.aX.length:Int):=by omega
  have hlt:(s.aX.take i).length=i:=by simp;omega
  have hs1:pE w (s.aX.take (i+1))=pE w (s.aX.take i)++_:=gl _ hi;have hkl:=Cn w (s.aX.take i);obtain ⟨x,hx⟩:=aL (s.aX[i]);rw [<- hx] at hm hs1;obtain ⟨K,hK⟩:=aL (pE w (s.aX.take i));rw [<- hK] at hs1 hkl;rw [<- hK];cases q1:x.who==w
  ·cases q2:x.src==w
   ·simp only [q1,q2,Bool.or_self,fY,if_false] at hs1;simp only [go_sem,seval,aG,hdi,hm,bne,q1,q2,hwi];(with_reducible and_intros)<;>first|exact .dq|omega|skip
    refine ah.step () hi trivial ?_;simp only [go_sem,seval,hs1]<;>simp
   ·simp only [q1,q2,Bool.false_or,if_true,List.append_nil] at hs1;simp only [go_sem,seval,aG,hdi,hm,bne,q1,q2,hwi];(with_reducible and_intros)<;>first|exact .dq|omega|skip
    refine ah.step () hi trivial ?_;simp only [go_sem,seval,hs1]<;>simp
  ·simp only [q1,Bool.true_or,if_true,List.append_nil] at hs1;simp only [go_sem,seval,aG,hdi,hm,bne,q1,hwi];(with_reducible and_intros)<;>first|exact .dq|omega|skip
   refine ah.step () hi trivial ?_;simp only [go_sem,seval,hs1]<;>simp
 intro _ hdx2 _;simp only [go_sem,seval,aG,hdx2,List.take_length]
theorem Jo (s:af) (w:Int) (hs:s.small) (hr:s.cE) (hm:s.aj.ms.length < 2 ^ 27) (hq:s.book.qs.length < 2 ^ 20) (hbl:s.aX.length < 2 ^ 20) (hlb:s.aU.bs.length < 2 ^ 29) :
  Abs.Spec Tryz.prog 67 [] [.agg s.cells,.int .i64 w] [] (.bI [.agg (lT s w).cells,.sl 8 ((FU s w).map dM.cells),.sl 3 ((FN s w).map aN.cells),.int .i64 (uv s w)]):=by
 refine Spec.frozen (Lu s w hs hr hm hq hbl hlb) [0,1,2,3] rfl ?_;intro r;rcases r with _ | _ | _ | _ | r<;>rfl
def iy (s:af):List aN:=(ju (oX s.aj s.book)).1
def xd (s:af):bq × Int:=fu s.aU (nM (iy s)) (qD (iy s))
def gP (s:af):Int:=if br s then (if s.phase=0 then (if uu s.aj s.book=0 then (if (ju (oX s.aj s.book)).2=0 then (xd s).2 else (ju (oX s.aj s.book)).2) else uu s.aj s.book) else 15) else 14
def jB (s:af):af:=if gP s=0 then { s with phase:=1,aj:=Ix s.aj,book:=vi s.aj s.book,aU:=(xd s).1 } else .zero
def oO (s:af):List aN:=if gP s=0 then iy s else []
theorem Nu (l:List aN):(nM l).length<=306:=by
 unfold nM;split
 ·exact uh _
 ·simp
theorem Rl (r:au) (b:aF):(oX r b).length<=b.qs.length:=by
 unfold oX;split<;>simp
theorem tA {s:af} (h:br s=true):0<=s.now/\s.now<=1099511627776/\0<=s.day/\s.day<=1099511627776/\0<=s.phase/\s.phase<=2:=by
 simp only [br,o8,within,bZ,decide_eq_true_eq] at h;have:=h.1;omega
theorem CW (s:af) (hs:s.small) (hr:s.cE) (hq:s.book.qs.length < 2 ^ 20) :
  Abs.Spec Tryz.prog 62 [] [.agg s.cells] [] (.bI [.agg (jB s).cells,.sl 3 ((oO s).map aN.cells),.int .i64 (gP s)]):=by
 have c1:=gy s hs hr;have c2:=aP s hs;have c3:=J3 s.aj s.book hs.aj hs.book hr.qs;have hdl:=Rl s.aj s.book;have c4:=zn (oX s.aj s.book) (by omega);have hnl:=(Gc (oX s.aj s.book)).2;have c5:=zB (iy s) (by unfold iy;omega);have hgl:=Nu (iy s);have c6:=pM s.aU (nextId s.aU) (nM (iy s)) hs.aU hr.bs (by omega);have c7:=GB s.aj hs.aj;obtain ⟨E,hE⟩:=aL (gP s);have hE0:=hE;simp only [gP] at hE;simp only [jB,oO,<- hE0];clear hE0;obtain ⟨P,hP⟩:=aL (xd s);rw [<- hP] at hE |-;simp only [xd] at hP;have e1:(ju (oX s.aj s.book)).1=iy s:=rfl;rw [e1] at c4;clear e1;obtain ⟨N,hN⟩:=aL (iy s);obtain ⟨ne,hne⟩:=aL ((ju (oX s.aj s.book)).2);rw [<- hN] at c4 c5 c6 hP hgl |-;rw [<- hne] at c4 hE;clear hN hne hnl;obtain ⟨g,hg⟩:=aL (nM N);obtain ⟨ge,hge⟩:=aL (qD N);rw [<- hg] at c5 c6 hP hgl;rw [<- hge] at c5 hP;clear hg hge;simp only [af.cells] at c1 c2 |-;simp only [aF.cells] at c3;simp only [au.cells] at c3 c7;simp only [bq.cells,nextId] at c6;simp only [nextId,fu] at hP;obtain ⟨RD,hRD⟩:=aL (oX s.aj s.book);obtain ⟨RB,hRB⟩:=aL (vi s.aj s.book);obtain ⟨re,hre⟩:=aL (uu s.aj s.book);rw [<- hRD] at c3 c4;rw [<- hRB] at c3 |-;rw [<- hre] at c3 hE;clear hRD hRB hre hdl;refine bg 82 1 [.cell 2 42,.tmp 3,.tmp 4] mixed Tryz.func62 ?_;simp only [go_sem,seval];(with_reducible and_intros)<;>first|exact .dq|omega|skip
 refine aa.pure c1 ?_;cases b1:br s
 ·rw [b1] at hE;rw [hE];simp only [go_sem,seval]<;>simp [af.zero,pl]
 rw [b1,if_pos rfl] at hE;simp only [go_sem,seval];(with_reducible and_intros)<;>first|exact .dq|omega|skip
 by_cases b2:s.phase=0
 case neg =>
  have d:(s.phase==0)=false:=by simpa using b2
  rw [if_neg b2] at hE;rw [hE];simp only [go_sem,seval,bne,d]<;>simp [af.zero,pl]
 rw [if_pos b2] at hE;rw [b2] at c1 c2 |-;simp only [go_sem,seval];(with_reducible and_intros)<;>first|exact .dq|omega|skip
 refine aa.pure c3 ?_;clear c1 c3
 by_cases b3:re=0
 case neg =>
  have d:(re==0)=false:=by simpa using b3
  rw [if_neg b3] at hE;rw [hE];simp only [if_neg b3];simp only [go_sem,seval,bne,d]<;>simp [af.zero,pl]
 rw [if_pos b3] at hE;rw [b3];simp only [go_sem,seval];(with_reducible and_intros)<;>first|exact .dq|omega|skip
 refine aa.pure c4 ?_
 by_cases b4:ne=0
 case neg =>
  have d:(ne==0)=false:=by simpa using b4
  rw [if_neg b4] at hE;rw [hE];simp only [if_neg b4];simp only [go_sem,seval,bne,d]<;>simp [af.zero,pl]
 rw [if_pos b4] at hE;rw [b4];clear c4;simp only [go_sem,seval];(with_reducible and_intros)<;>first|exact .dq|omega|skip
 refine aa.pure c2 ?_;simp only [go_sem,seval];(with_reducible and_intros)<;>first|exact .dq|omega|skip
 refine aa.pure c5 ?_;clear c2 c5
 by_cases q1:ge=0
 case neg =>
  have d:(ge==0)=false:=by simpa using q1
  rw [if_neg (by simp [q1])] at hP;rw [hE,hP];simp only [if_neg q1];simp only [go_sem,seval,bne,d]<;>simp [af.zero,pl]
 rw [q1] at hP |-
 by_cases q2:g=[]
 ·rw [if_neg (by simp [q2])] at hP;rw [hE,hP,q2];simp only [go_sem,seval,List.map_nil,List.length_nil];(with_reducible and_intros)<;>first|exact .dq|omega|skip
  refine aa.pure c7 ?_;simp only [go_sem,seval]
 have hgp:decide ((0:Int) < (g.length:Int))=true:=by
  have:g.length≠0:=fun h=>q2 (List.eq_nil_of_length_eq_zero h)
  simp;omega
 rw [if_pos ⟨rfl,q2⟩] at hP;obtain ⟨M,hM⟩:=aL (gF s.aU (IntKind.wrap .i64 (s.aU.last+1)) g);obtain ⟨e2,he2⟩:=aL (eI s.aU (IntKind.wrap .i64 (s.aU.last+1)) g);rw [<- hM,<- he2] at hP c6;simp only [go_sem,seval,aG,hgp];(with_reducible and_intros)<;>first|exact .dq|omega|skip
 refine aa.pure c6 ?_
 by_cases q4:e2=0
 case neg =>
  have d:(e2==0)=false:=by simpa using q4
  rw [hE,hP];simp only [if_neg q4];simp only [go_sem,seval,bne,d]<;>simp [af.zero,pl]
 rw [hE,hP,q4];simp only [go_sem,seval];(with_reducible and_intros)<;>first|exact .dq|omega|skip
 refine aa.pure c7 ?_;simp only [go_sem,seval]
def rS (s:af):Int:=if br s then (if s.phase=2 then (if s.day=1099511627776 then 1 else 0) else 15) else 14
def rT (s:af):af:=if rS s=0 then { s with day:=s.day+1,phase:=0,book:=⟨s.book.next,[],s.book.qs⟩ } else .zero
theorem Aw (s:af) (hs:s.small) (hr:s.cE):Abs.Spec Tryz.prog 64 [] [.agg s.cells] [] (.bI [.agg (rT s).cells,.int .i64 (rS s)]):=by
 have c1:=gy s hs hr;have c2:=aP s hs;have hck:=fun h=>tA (s:=s) h
 obtain ⟨E,hE⟩:=aL (rS s);have hE0:=hE;simp only [rS] at hE;simp only [rT,<- hE0];clear hE0;simp only [af.cells] at c1 c2 |-;refine bg 32 1 [.cell 2 42,.tmp 3] mixed Tryz.func64 ?_;simp only [go_sem,seval];(with_reducible and_intros)<;>first|exact .dq|omega|skip
 refine aa.pure c1 ?_;cases b1:br s
 ·rw [b1] at hE;rw [hE];simp only [go_sem,seval]<;>simp [af.zero,pl]
 have hck:=hck b1;rw [b1,if_pos rfl] at hE;simp only [go_sem,seval];(with_reducible and_intros)<;>first|exact .dq|omega|skip
 by_cases b2:s.phase=2
 case neg =>
  have d:(s.phase==2)=false:=by simpa using b2
  rw [if_neg b2] at hE;rw [hE];simp only [go_sem,seval,bne,d]<;>simp [af.zero,pl]
 rw [if_pos b2] at hE;rw [b2] at c1 c2 |-;simp only [go_sem,seval];(with_reducible and_intros)<;>first|exact .dq|omega|skip
 by_cases b3:s.day=1099511627776
 ·rw [if_pos b3] at hE;rw [hE,b3];simp only [go_sem,seval]<;>simp [af.zero,pl]
 have d:(s.day==1099511627776)=false:=by simpa using b3
 have hw:IntKind.wrap .i64 (s.day+1)=s.day+1:=bz (by omega) (by omega);rw [if_neg b3] at hE;rw [hE];simp only [go_sem,seval,d];(with_reducible and_intros)<;>first|exact .dq|omega|skip
 refine aa.pure c2 ?_;simp only [go_sem,seval,hw]<;>simp
def aB.due (c:aB):aN:=⟨c.who,c.cur,c.bW⟩
def qi:List aB->au × List aB->au × List aB
 | [],x=>x
 | c :: r,x=>qi r (lR x.1 c.who 2,ew x.2 [c.who])
def oc (s:af) (n:Int):Int:=if br s then (if within n 1 1000 then (if 1099511627776 < s.now+n then 1 else 0) else 3) else 14
def gq (s:af) (n:Int):af:=if oc s n=0 then { s with now:=s.now+n,aj:=(qi (mN (s.now+n) s.calls) (s.aj,s.calls)).1,calls:=(qi (mN (s.now+n) s.calls) (s.aj,s.calls)).2 } else .zero
def wz (s:af) (n:Int):List aN:=if oc s n=0 then (mN (s.now+n) s.calls).map aB.due else []
theorem PL {A:Type} (no:A->Int) (n:Int) (f:A->A) (l:List A):(uz no n f l).length<=l.length:=by
 induction l with
 | nil=>simp [uz]
 | cons x r ih=>simp only [uz];split<;>simp<;>omega
theorem NQ {r:au} (h:r.jk) (n p:Int):(lR r n p).jk:=by
 unfold lR;split
 ·obtain ⟨h1,h2,h3⟩:=h;exact ⟨Nat.lt_of_le_of_lt (PL _ _ _ _) h1,h2,h3⟩
 ·exact ⟨by simp [au.none],by simp [au.none],by simp [au.none]⟩
theorem FX (xs:List aB) (ws:List Int):(ew xs ws).length<=xs.length:=by
 have:=fm (f:=fun x:aB=>if pY ws x.who then [] else [x]) (m:=1) (fun p=>by split<;>simp) xs;simpa [ew] using this
theorem FC (n:Int) (xs:List aB):(mN n xs).length<=xs.length:=by
 have:=fm (f:=fun x:aB=>if x.till<=n then [x] else []) (m:=1) (fun p=>by split<;>simp) xs;simpa [mN] using this
theorem ae2 (n0 n1 n2 n3 n4:Int) (r0 r1 r2 r3 r4 r5 r6 r7 r8 r9:List (List D)):(dN [0,1,2,3,4,5,6,8,9] (sq [(0,.agg [.int .i64 n0,.int .i64 n1,.int .i64 n2,.ref 0,.ref 1,.ref 2,.int .i64 n3,.ref 3,.ref 4,.int .i64 n4,.ref 5,.ref 6,.ref 7,.ref 8,.ref 9])] (qI 0 [.own 3 r0,.own 12 r1,.own 4 r2,.own 7 r3,.own 4 r4,.own 4 r5,.own 3 r6,.own 4 r7,.own 5 r8,.own 7 r9]))).t 0=.agg [.int .i64 n0,.int .i64 n1,.int .i64 n2,.sl 3 r0,.sl 12 r1,.sl 4 r2,.int .i64 n3,.sl 7 r3,.sl 4 r4,.int .i64 n4,.sl 4 r5,.sl 3 r6,.ref 7,.sl 5 r8,.sl 7 r9]:=by
 kernel_rfl
theorem aaT (d:D) (r0 r1 r2 r3 r4 r5 r6 r7 r8 r9:List (List D)) (r:Nat):(dN [0,1,2,3,4,5,6,8,9] (sq [(0,d)] (qI 0 [.own 3 r0,.own 12 r1,.own 4 r2,.own 7 r3,.own 4 r4,.own 4 r5,.own 3 r6,.own 4 r7,.own 5 r8,.own 7 r9]))).o r=[D.undef,.undef,.undef,.undef,.undef,.undef,.undef,.own 4 r7].getD r .undef:=by
 rcases r with _ | _ | _ | _ | _ | _ | _ | _ | _ | _ | r<;>kernel_rfl
theorem Ka (s:af) (hs:s.small):Abs.Spec Tryz.prog 5 [] [.agg s.cells] [.undef,.undef,.undef,.undef,.undef,.undef,.undef,.own 4 (s.calls.map aB.cells)] (.agg [.int .i64 s.now,.int .i64 s.day,.int .i64 s.phase,.sl 3 (s.aj.ms.map ak.cells),.sl 12 (s.aj.ns.map aq.cells),.sl 4 (s.aj.xs.map av.cells),.int .i64 s.book.next,.sl 7 (s.book.ts.map aI.cells),.sl 4 (s.book.qs.map aA.cells),
 .int .i64 s.aU.last,.sl 4 (s.aU.bs.map bp.cells),.sl 3 (pl s.ps),.ref 7,.sl 5 (s.aX.map bu.cells),.sl 7 (s.aJ.map bE.cells)]):=by
 have h:=kj s hs;simp only [Ep,yg] at h;simp only [af.cells];simp only [af.cells] at h;exact Spec.frozen h [0,1,2,3,4,5,6,8,9] (ae2 ..) (fun r=>aaT ..)
theorem JE (s : af) (n : Int) (hs : s.small) (hr : s.cE) : Abs.Spec Tryz.prog 65 [] [.agg s.cells, .int .i64 n] [.own 4 ((gq s n).calls.map aB.cells), .own 3 ((wz s n).map aN.cells)] (.bI [.agg [.int .i64 (gq s n).now, .int .i64 (gq s n).day, .int .i64 (gq s n).phase, .sl 3 ((gq s n).aj.ms.map ak.cells), .sl 12 ((gq s n).aj.ns.map aq.cells), .sl 4 ((gq s n).aj.xs.map av.cells), .int .i64 (gq s n).book.next, .sl 7 ((gq s n).book.ts.map aI.cells), .sl 4 ((gq s n).book.qs.map aA.cells),
        .int .i64 (gq s n).aU.last, .sl 4 ((gq s n).aU.bs.map bp.cells), .sl 3 (pl (gq s n).ps), .ref 0, .sl 5 ((gq s n).aX.map bu.cells), .sl 7 ((gq s n).aJ.map bE.cells)], .ref 1, .int .i64 (oc s n)]) := by
  have c1 := gy s hs hr
  have c2 := Ka s hs
  have c3 := fy n 1 1000
  have c4 := fun m => F4 m s.calls hs.calls
  have hck := fun h => tA (s := s) h
  obtain ⟨E, hE⟩ : ∃ E, E = oc s n := ⟨_, rfl⟩
  have hE0 := hE
  simp only [oc] at hE
  simp only [gq, wz, ← hE0]
  clear hE0
  simp only [af.cells] at c1 c2 ⊢
  refine bg 85 2 [.cell 4 42, .tmp 5, .tmp 6] mixed Tryz.func65 ?_
  simp only [go_sem, seval]
  (with_reducible and_intros)<;>first|exact .dq|omega|skip
  refine aa.pure c1 ?_
  cases b1 : br s
  · rw [b1] at hE
    rw [hE]
    simp only [go_sem, seval] <;> simp [af.zero, pl]
  have hck := hck b1
  rw [b1, if_pos rfl] at hE
  simp only [go_sem, seval]
  (with_reducible and_intros)<;>first|exact .dq|omega|skip
  refine aa.pure c3 ?_
  cases b2 : within n 1 1000
  · rw [b2] at hE
    rw [hE]
    simp only [go_sem, seval] <;> simp [af.zero, pl]
  rw [b2, if_pos rfl] at hE
  simp only [within, Bool.and_eq_true, decide_eq_true_eq] at b2
  have hw : IntKind.wrap .i64 (s.now + n) = s.now + n := bz (by omega) (by omega)
  simp only [go_sem, seval, hw]
  (with_reducible and_intros)<;>first|exact .dq|omega|skip
  by_cases b3 : 1099511627776 < s.now + n
  · rw [if_pos b3] at hE
    have d : decide (1099511627776 < s.now + n) = true := by simpa using b3
    rw [hE]
    simp only [go_sem, seval, d] <;> simp [af.zero, pl]
  rw [if_neg b3] at hE
  have d : decide (1099511627776 < s.now + n) = false := by simpa using b3
  rw [hE]
  have c4 := c4 (s.now + n)
  have hll := FC (s.now + n) s.calls
  have hcl := hs.calls
  obtain ⟨N, hN⟩ : ∃ N, N = s.now + n := ⟨_, rfl⟩
  have hw := hw.trans hN.symm
  rw [← hN] at d c4 hll ⊢
  obtain ⟨l, hl⟩ : ∃ l, l = mN N s.calls := ⟨_, rfl⟩
  rw [← hl] at c4 hll ⊢
  simp only [go_sem, seval, d]
  (with_reducible and_intros)<;>first|exact .dq|omega|skip
  refine aa.gen [] [] false (by simp) ?_
  simp only [go_sem, seval]
  refine aY.intro c2 ?_
  simp only [go_sem, seval, hw]
  (with_reducible and_intros)<;>first|exact .dq|omega|skip
  refine aa.pure c4 ?_
  clear c1 c2 c3 c4 hl hN
  simp only [go_sem, seval, List.length_map]
  (with_reducible and_intros)<;>first|exact .dq|omega|skip
  obtain ⟨R, hR⟩ : ∃ R, R = qi l (s.aj, s.calls) := ⟨_, rfl⟩
  rw [← hR]
  refine aC.walk (S := au × List aB) l.length [4, 7, 8] [80] (fun i _ => [(11, .int .i64 i), (10, .ref 944)])
    (fun i x => [(471, .own 4 (x.2.map aB.cells)), (128, .box [.int .i64 N, .int .i64 s.day, .int .i64 s.phase, .sl 3 (x.1.ms.map ak.cells), .sl 12 (x.1.ns.map aq.cells), .sl 4 (x.1.xs.map av.cells), .int .i64 s.book.next, .sl 7 (s.book.ts.map aI.cells), .sl 4 (s.book.qs.map aA.cells),
      .int .i64 s.aU.last, .sl 4 (s.aU.bs.map bp.cells), .sl 3 (pl s.ps), .ref 471, .sl 5 (s.aX.map bu.cells), .sl 7 (s.aJ.map bE.cells)]), (944, .own 3 (((l.take i).map aB.due).map aN.cells))])
    (fun i x => qi (l.drop i) x = R ∧ x.1.jk ∧ x.2.length < 2 ^ 30) (s.aj, s.calls) ⟨hR.symm, hs.aj, hs.calls⟩ ?_ ?_ ?_
  · simp only [go_sem, seval] <;> simp
  · intro i x hi hdi hwi hI
    obtain ⟨ro, cs⟩ := x
    obtain ⟨hI, ht, hcs⟩ := hI
    dsimp only at hI ht hcs ⊢
    have hm := aD (c := aB.cells) l hi
    have hli : (i : Int) < (l.length : Int) := by omega
    have hlt : ((l.take i).map aB.due).length = i := by simp; omega
    have hs1 : (l.take (i + 1)).map aB.due = (l.take i).map aB.due ++ [aB.due l[i]] := by
      rw [List.take_add_one, List.getElem?_eq_getElem hi, List.map_append]; rfl
    rw [dy hi] at hI
    simp only [qi] at hI
    obtain ⟨x, hx⟩ : ∃ x, x = l[i] := ⟨_, rfl⟩
    rw [← hx] at hm hs1 hI
    have cP := y9 ro x.who 2 ht
    have cW := sG cs [x.who] hcs (by simp)
    have ht2 := NQ ht x.who 2
    have hcs2 := FX cs [x.who]
    obtain ⟨T, hT⟩ : ∃ T, T = (l.take i).map aB.due := ⟨_, rfl⟩
    rw [← hT] at hs1 hlt ⊢
    simp only [aB.due] at hs1
    simp only [au.cells] at cP
    simp only [ints, List.map_cons, List.map_nil] at cW
    obtain ⟨Q, hQ⟩ : ∃ Q, Q = lR ro x.who 2 := ⟨_, rfl⟩
    obtain ⟨W, hW⟩ : ∃ W, W = ew cs [x.who] := ⟨_, rfl⟩
    rw [← hQ] at hI cP ht2
    rw [← hW] at hI cW hcs2
    simp only [go_sem, seval, List.length_map, hdi, hm, hlt]
    (with_reducible and_intros)<;>first|exact .dq|omega|skip
    refine aa.pure cP ?_
    simp only [go_sem, seval, List.length_map, hdi, hm, hlt]
    (with_reducible and_intros)<;>first|exact .dq|omega|skip
    refine aa.gen [] [] true (by simp) ?_
    simp only [go_sem, seval]
    refine aY.intro cW ?_
    simp only [go_sem, seval, hwi]
    (with_reducible and_intros)<;>first|exact .dq|omega|skip
    · intro r hr' d hd
      obtain ⟨y, _, rfl⟩ := List.mem_map.1 hr'
      simp only [aB.cells, List.mem_cons, List.not_mem_nil, or_false] at hd
      rcases hd with rfl | rfl | rfl | rfl <;> trivial
    refine ah.step (Q, W) hi ⟨hI, ht2, by dsimp only; omega⟩ ?_
    simp only [go_sem, seval, hs1] <;> simp
  intro x hdx hI
  obtain ⟨ro, cs⟩ := x
  have hI := hI.1
  rw [List.drop_length] at hI
  have hI : (ro, cs) = R := hI
  subst hI
  simp only [go_sem, seval, List.length_map, hdx, List.take_length]
theorem Hu (s:af) (n:Int) (hs:s.small) (hr:s.cE):Abs.Spec Tryz.prog 65 [] [.agg s.cells,.int .i64 n] [] (.bI [.agg (gq s n).cells,.sl 3 ((wz s n).map aN.cells),.int .i64 (oc s n)]):=by
 refine Spec.frozen (JE s n hs hr) [0,1] rfl ?_;intro r;rcases r with _ | _ | r<;>rfl
def Kt (s:af):Int:=min (s.now+3) 1099511627776
def nN (s:af) (w:Int):Nat->Nat->List aB × List aN->(List aB × List aN) × Int
 | 0,_,x=>(x,0)
 | m+1,c,x=>if Ue s w c=0 then nN s w m (c+1) (zO x.1 ⟨w,c,Po s w c⟩ (Kt s),x.2++mI w c (Po s w c)) else (x,Ue s w c)
def qP (s:af):List Int->List aB × List aN->(List aB × List aN) × Int
 | [],x=>(x,0)
 | w :: r,x=>if (nN s w 3 0 x).2=0 then qP s r (nN s w 3 0 x).1 else nN s w 3 0 x
def Ou (s:af):(List aB × List aN) × Int:=qP s (mK s.aj [1]) (s.calls,[])
def iB (s:af):Int:=if br s then (if s.phase=1 then (Ou s).2 else 15) else 14
def iY (s:af):af:=if iB s=0 then { s with phase:=2,calls:=(Ou s).1.1 } else .zero
def mY (s:af):List aN:=if iB s=0 then (Ou s).1.2 else []
theorem Ru (xs:List aB) (d:aN) (a:Int):(zO xs d a).length<=48:=by
 unfold zO;split
 ·exact Jx _ _ _
 ·simp
theorem yq (s:af) (hs:s.small) (hr:s.cE) (hlb:s.aU.bs.length < 2 ^ 29) (hlp:s.ps.length < 2 ^ 29) :
  Abs.Spec Tryz.prog 63 [] [.agg s.cells] [.own 3 ((mY s).map aN.cells)] (.bI [.agg (iY s).cells,.ref 0,.int .i64 (iB s)]):=by
 have c1:=gy s hs hr;have c2:=aP s hs;have c3:=uM s.aj [1] hs.aj (by simp);have hfit:s.fit:=⟨hs.aj.small,hs.book,hs.aU,hs.ps⟩
 have cS:=fun w c=>uS s w c hfit hr hlb hlp
 have cA:=fun xs d (h:xs.length < 2 ^ 30)=>IG xs d (Kt s) h
 have htl:=u5 s.aj [1];have hml:=hs.aj.1;have hck:=fun h=>tA (s:=s) h
 obtain ⟨E,hE⟩:=aL (iB s);have hE0:=hE;simp only [iB] at hE;simp only [iY,mY,<- hE0];clear hE0;obtain ⟨R,hR⟩:=aL (Ou s);rw [<- hR] at hE |-;simp only [Ou] at hR;obtain ⟨ws,hws⟩:=aL (mK s.aj [1]);rw [<- hws] at c3 hR htl;clear hws;simp only [af.cells] at c1 c2 cS |-;rw [show ints [1]=[[.int .i64 1]] from rfl] at c3;simp only [au.cells] at c3;simp only [aN.cells] at cA;refine bg 82 1 [.cell 2 42,.tmp 3,.tmp 4] mixed Tryz.func63 ?_;simp only [go_sem,seval];(with_reducible and_intros)<;>first|exact .dq|omega|skip
 refine aa.pure c1 ?_;cases b1:br s
 ·rw [b1] at hE;rw [hE];simp only [go_sem,seval]<;>simp [af.zero,pl]
 have hck:=hck b1;have hA:Kt s=min (s.now+3) 1099511627776:=rfl;have hw:IntKind.wrap .i64 (s.now+3)=s.now+3:=bz (by omega) (by omega);rw [b1,if_pos rfl] at hE;simp only [go_sem,seval];(with_reducible and_intros)<;>first|exact .dq|omega|skip
 by_cases b2:s.phase=1
 case neg =>
  have d:(s.phase==1)=false:=by simpa using b2
  rw [if_neg b2] at hE;rw [hE];simp only [go_sem,seval,bne,d]<;>simp [af.zero,pl]
 rw [if_pos b2] at hE;obtain ⟨ph,hph⟩:=aL (s.phase);rw [<- hph] at b2 c1 c2 cS |-;have dph:(ph==1)=true:=by simpa using b2
 clear hph;simp only [go_sem,seval,bne,dph];(with_reducible and_intros)<;>first|exact .dq|omega|skip
 refine aa.pure c2 ?_;simp only [go_sem,seval];(with_reducible and_intros)<;>first|exact .dq|omega|skip
 refine aa.gen [432] [] false (by simp) ?_;simp only [go_sem,seval];refine aY.intro c3 ?_;clear c1 c2 c3;simp only [go_sem,seval];(with_reducible and_intros)<;>first|exact .dq|omega|skip
 refine aC.walk (S:=List aB × List aN) ws.length [1,2,5,7] [32,48] (fun i _=>[(8,.int .i64 i),(6,.ref 1248)])
  (fun i x=>[(96,.box [.int .i64 s.now,.int .i64 s.day,.int .i64 ph,.sl 3 (s.aj.ms.map ak.cells),.sl 12 (s.aj.ns.map aq.cells),.sl 4 (s.aj.xs.map av.cells),.int .i64 s.book.next,.sl 7 (s.book.ts.map aI.cells),.sl 4 (s.book.qs.map aA.cells),
   .int .i64 s.aU.last,.sl 4 (s.aU.bs.map bp.cells),.sl 3 (pl s.ps),.sl 4 (x.1.map aB.cells),.sl 5 (s.aX.map bu.cells),.sl 7 (s.aJ.map bE.cells)]),(1248,.own 3 (x.2.map aN.cells))])
  (fun i x=>qP s (ws.drop i) x=R/\x.1.length < 2 ^ 30/\x.2.length<=3*i) (s.calls,[]) ⟨hR.symm,hs.calls,Nat.le_refl _⟩ ?_ ?_ ?_
 ·simp only [go_sem,seval]<;>simp
 ·intro i x hi hdi hwi hI;obtain ⟨cs,ds⟩:=x;obtain ⟨hI,hcl,hdl⟩:=hI;dsimp only at hI hcl hdl |-;rw [dy hi] at hI;simp only [qP] at hI;have hmw:=ints_at ws hi;have hli:(i:Int) < (ws.length:Int):=by omega
  have cSw:=cS ws[i];obtain ⟨w,hw1⟩:=aL (ws[i]);rw [<- hw1] at hI hmw cSw;obtain ⟨Q,hQ⟩:=aL (nN s w 3 0 (cs,ds));rw [<- hQ] at hI;clear cS hw1;simp only [go_sem,seval,ay,hdi];(with_reducible and_intros)<;>first|exact .dq|omega|skip
  refine aC.walk (S:=List aB × List aN) 3 [1,2,5,7,8] [32,48] (fun c _=>[(9,.int .i64 c),(6,.ref 1248)])
   (fun c x=>[(96,.box [.int .i64 s.now,.int .i64 s.day,.int .i64 ph,.sl 3 (s.aj.ms.map ak.cells),.sl 12 (s.aj.ns.map aq.cells),.sl 4 (s.aj.xs.map av.cells),.int .i64 s.book.next,.sl 7 (s.book.ts.map aI.cells),.sl 4 (s.book.qs.map aA.cells),
    .int .i64 s.aU.last,.sl 4 (s.aU.bs.map bp.cells),.sl 3 (pl s.ps),.sl 4 (x.1.map aB.cells),.sl 5 (s.aX.map bu.cells),.sl 7 (s.aJ.map bE.cells)]),(1248,.own 3 (x.2.map aN.cells))])
   (fun c x=>nN s w (3-c) c x=Q/\x.1.length < 2 ^ 30/\x.2.length<=3*i+c) (cs,ds) ⟨hQ.symm,hcl,hdl⟩ ?_ ?_ ?_
  ·simp only [go_sem,seval]<;>simp
  ·intro c x hc hdc hwc hJ;obtain ⟨cs,ds⟩:=x;obtain ⟨hJ,hcl,hdl⟩:=hJ;dsimp only at hJ hcl hdl |-;have hdc:decide ((c:Int) < 3)=true:=hdc;obtain ⟨m,hm⟩:∃ m,3-c=m+1:=⟨3-c-1,by omega⟩
   have hm2:3-(c+1)=m:=by omega
   rw [hm] at hJ;simp only [nN] at hJ;have cSc:=cSw c;have cAc:=cA cs ⟨w,c,Po s w c⟩ hcl;have hal:=Ru cs ⟨w,c,Po s w c⟩ (Kt s);dsimp only at cAc;obtain ⟨n,hn⟩:=aL (Po s w c);obtain ⟨e,he⟩:=aL (Ue s w c);rw [<- hn] at cSc cAc hJ hal;rw [<- he] at cSc hJ;rw [hA] at cAc hJ hal;clear cA cSw hn he;simp only [go_sem,seval,hdc,ay,hmw,hli];(with_reducible and_intros)<;>first|exact .dq|omega|skip
   refine aa.pure cSc ?_
   by_cases q1:e=0
   case neg =>
    have d:(e==0)=false:=by simpa using q1
    rw [if_neg q1] at hJ;rw [<- hJ] at hI;dsimp only at hI;rw [if_neg q1] at hI;rw [<- hI] at hE;rw [hE];simp only [if_neg q1];simp only [go_sem,seval,bne,d]
    all_goals simp [af.zero,pl]
   rw [if_pos q1] at hJ;rw [q1];simp only [go_sem,seval,ay,hmw,hli,hw];(with_reducible and_intros)<;>first|exact .dq|omega|skip
   refine aa.pure cAc ?_;obtain ⟨A,hA1⟩:=aL (zO cs ⟨w,c,n⟩ (min (s.now+3) 1099511627776));rw [<- hA1] at hJ hal |-
   by_cases q2:n=0
   ·have hJ:nN s w m (c+1) (A,ds)=Q:=by rw [<- hJ];simp [mI,q2]
    rw [q2];simp only [go_sem,seval,bne,hwc];(with_reducible and_intros)<;>first|exact .dq|omega|skip
    refine ah.step (A,ds) hc ⟨by rw [hm2];exact hJ,by dsimp only;omega,by dsimp only;omega⟩ ?_;simp only [go_sem,seval]<;>simp
   ·have d:(n==0)=false:=by simpa using q2
    have hJ:nN s w m (c+1) (A,ds++[⟨w,c,n⟩])=Q:=by rw [<- hJ];simp [mI,q2]
    simp only [go_sem,seval,bne,d,hwc,aG];(with_reducible and_intros)<;>first|exact .dq|omega|skip
    refine ah.step (A,ds++[⟨w,c,n⟩]) hc ⟨by rw [hm2];exact hJ,by dsimp only;omega,by simp;omega⟩ ?_;simp only [go_sem,seval]<;>simp
  intro x _ hJ;obtain ⟨cs,ds⟩:=x;obtain ⟨hJ,hcl,hdl⟩:=hJ;have hJ:((cs,ds),(0:Int))=Q:=hJ;rw [<- hJ] at hI;dsimp only at hI hcl hdl;rw [if_pos rfl] at hI;dsimp only
  try refine fH.id ?_
  simp only [go_sem,seval,hwi];(with_reducible and_intros)<;>first|exact .dq|omega|skip
  refine ah.step (cs,ds) hi ⟨hI,hcl,by dsimp only;omega⟩ ?_;simp only [go_sem,seval]<;>simp
 intro x hdx hI;obtain ⟨cs,ds⟩:=x;have hI:=hI.1;rw [List.drop_length] at hI;have hI:((cs,ds),(0:Int))=R:=hI;subst hI;rw [hE];dsimp only;simp only [go_sem,seval,ay,hdx]
theorem wV (s:af) (hs:s.small) (hr:s.cE) (hlb:s.aU.bs.length < 2 ^ 29) (hlp:s.ps.length < 2 ^ 29):Abs.Spec Tryz.prog 63 [] [.agg s.cells] [] (.bI [.agg (iY s).cells,.sl 3 ((mY s).map aN.cells),.int .i64 (iB s)]):=by
 refine Spec.frozen (yq s hs hr hlb hlp) [0] rfl ?_;intro r;rcases r with _ | r<;>rfl
structure aZ where
 client:Int
 seq:Int
 kind:Int
 who:Int
 other:Int
 no:Int
 inst:Int
 cur:Int
 aV:Int
 aR:Int
 bW:Int
 s0:Int
 s1:Int
 s2:Int
 s3:Int
 s4:Int
 s5:Int
deriving DecidableEq
@[reducible] def aZ.cells (x:aZ):List D:=[.int .i64 x.client,.int .i64 x.seq,.int .i64 x.kind,.int .i64 x.who,.int .i64 x.other,.int .i64 x.no,.int .i64 x.inst,.int .i64 x.cur,.int .i64 x.aV,.int .i64 x.aR,.int .i64 x.bW,.int .i64 x.s0,.int .i64 x.s1,.int .i64 x.s2,.int .i64 x.s3,.int .i64 x.s4,.int .i64 x.s5]
theorem ga (a b c:Int):Abs.Spec Tryz.prog 56 [] [.int .i64 a,.int .i64 b,.int .i64 c] [] (.bool (within a b c)):=by
 refine bg 15 3 [.tmp 6] mixed Tryz.func56 ?_;simp only [go_sem,seval]
 repeat' with_reducible first|apply And.intro|exact .dq|refine aa.pure (by assumption) ?_|refine .aM (fun h=>?_) fun h=>?_|refine .aK (fun h=>?_) fun h=>?_|refine .aO (fun h=>?_) fun h=>?_|refine .split (fun h=>?_) fun h=>?_|refine .id ?_|refine ah.next (by omega) ?_ ?_|exact trivial|simp only [*,go_sem,seval]
 all_goals (simp only [within];simp<;>omega)
theorem gB (k w c:Int):Abs.Spec Tryz.prog 60 [] [.int .i64 k,.int .i64 w,.int .i64 c] [] (.agg [.int .i64 k,.int .i64 w,.int .i64 c]):=by
 refine bg 11 3 [.cell 6 46] mixed Tryz.func60 ?_;simp only [go_sem,seval]
theorem bD (e:Int):Abs.Spec Tryz.prog 57 [] [.int .i64 e] [] (.agg [.int .i64 e,.int .i64 0,.int .i64 0,.nil,.nil]):=by
 refine bg 5 1 [.cell 2 67] mixed Tryz.func57 ?_;simp only [go_sem,seval]
def Dl (r:au) (w:Int):Int:=if eJ r w then (if (fc r w).state=1 then 0 else 14) else 10
theorem qa (s:af) (w:Int) (hl:s.aj.small):Abs.Spec Tryz.prog 120 [] [.agg s.cells,.int .i64 w] [] (.int .i64 (Dl s.aj w)):=by
 have h1:=cj s.aj w hl;simp only [af.cells] at h1 |-;simp only [au.cells] at h1;unfold Dl;obtain ⟨m,hm⟩:=aL (fc s.aj w);rw [<- hm] at h1 |-;refine bg 19 2 [.tmp 4] mixed Tryz.func120 ?_;simp only [go_sem,seval];(with_reducible and_intros)<;>first|exact .dq|omega|skip
 refine aa.pure h1 ?_;cases q:eJ s.aj w
 ·simp only [go_sem,seval]<;>simp
 simp only [go_sem,seval,bne];(with_reducible and_intros)<;>first|exact .dq|omega|skip
 by_cases q2:m.state=1
 ·have d:(m.state==1)=true:=by simpa using q2
  simp only [go_sem,seval,d,if_pos q2]<;>simp
 ·have d:(m.state==1)=false:=by simpa using q2
  simp only [go_sem,seval,d,if_neg q2]<;>simp
def NC (s:af) (w c:Int):Int:=if Ue s w c=0 then (if decide (0 < Po s w c)||decide (0<=cQ w c s.calls) then 17 else 0) else Ue s w c
theorem oT (s:af) (w c:Int) (hs:s.small) (hr:s.cE) (hlb:s.aU.bs.length < 2 ^ 29) (hlp:s.ps.length < 2 ^ 29):Abs.Spec Tryz.prog 122 [] [.agg s.cells,.int .i64 w,.int .i64 c] [] (.int .i64 (NC s w c)):=by
 have hfit:s.fit:=⟨hs.aj.small,hs.book,hs.aU,hs.ps⟩
 have h1:=uS s w c hfit hr hlb hlp;have h2:=kV w c s.calls (by have:=hs.calls;omega);simp only [af.cells] at h1 |-;unfold NC;obtain ⟨e,he⟩:=aL (Ue s w c);obtain ⟨n,hn⟩:=aL (Po s w c);rw [<- he,<- hn] at h1;rw [<- he,<- hn];refine bg 29 3 [.tmp 6] mixed Tryz.func122 ?_;simp only [go_sem,seval];(with_reducible and_intros)<;>first|exact .dq|omega|skip
 refine aa.pure h1 ?_
 by_cases q:e=0
 case neg =>
  have d:(e==0)=false:=by simpa using q
  simp only [go_sem,seval,bne,d,if_neg q]
 rw [q];simp only [go_sem,seval];(with_reducible and_intros)<;>first|exact .dq|omega|skip
 cases q2:decide (0 < n)
 ·simp only [go_sem,seval];(with_reducible and_intros)<;>first|exact .dq|omega|skip
  refine aa.pure h2 ?_;cases q3:decide (0<=cQ w c s.calls)
  ·simp only [go_sem,seval,q3]<;>simp
  ·simp only [go_sem,seval,q3]<;>simp
 ·simp only [go_sem,seval]<;>simp
def gr (n:Int):List bE->Int->Int
 | [],_=>-1
 | x :: r,i=>if x.client==n then i else gr n r (i+1)
theorem sH (s:af) (n:Int) (hl:s.aJ.length < 2 ^ 40):Abs.Spec Tryz.prog 30 [] [.agg s.cells,.int .i64 n] [] (.int .i64 (gr n s.aJ 0)):=by
 simp only [af.cells];refine bg 22 2 [.tmp 4] mixed Tryz.func30 ?_;simp only [go_sem,seval,aG];refine aC.walk (S:=Unit) s.aJ.length [1,2] [48] (fun i _=>[(5,.int .i64 i)]) (fun _ _=>[]) (fun i _=>gr n (s.aJ.drop i) i=gr n s.aJ 0) () rfl ?_ ?_ ?_
 ·simp only [go_sem,seval]
  try simp
 ·intro i _ hi hdi hwi hI;have hm:=aD (c:=bE.cells) s.aJ hi;have hli:(i:Int) < (s.aJ.length:Int):=by omega
  obtain ⟨x,hx⟩:=aL (s.aJ[i]);rw [dy hi,<- hx] at hI;rw [<- hx] at hm;simp only [gr] at hI;simp only [bE.cells] at hm;simp only [go_sem,seval,aG,hdi,hm];(with_reducible and_intros)<;>first|exact .dq|omega|skip
  cases q:x.client==n
  ·rw [q] at hI;simp only [go_sem,seval,hwi];refine ah.step () hi (by simpa using hI) ?_;simp only [go_sem,seval]
  ·rw [q,if_pos rfl] at hI;rw [<- hI];simp only [go_sem,seval]
 ·intro _ hdx hI;rw [List.drop_length] at hI;rw [<- hI];simp only [go_sem,seval,aG,hdx,gr]
def qQ (s:ByteArray) (i:Nat):Int:=((s[i]?).map (fun x=>(x.toNat:Int))).getD 0
def Q9 (s:ByteArray) (b:Int):Nat->Nat->Bool
 | 0,_=>false
 | m+1,i=>qQ s i==b||Q9 s b m (i+1)
def hasB (s:ByteArray) (b:Int):Bool:=Q9 s b s.size 0
theorem DH (s:ByteArray) (b:Int) (hl:s.size < 2 ^ 60):Abs.Spec Tryz.prog 111 [] [.str s,.int .u8 b] [] (.bool (hasB s b)):=by
 refine bg 17 2 [.tmp 4] mixed Tryz.func111 ?_;simp only [go_sem,seval];refine aC.walk (S:=Unit) s.size [0,1] [] (fun i _=>[(5,.int .i64 i)]) (fun _ _=>[]) (fun i _=>Q9 s b (s.size-i) i=hasB s b) () rfl ?_ ?_ ?_
 ·simp only [go_sem,seval]
  try simp
 ·intro i _ hi hdi hwi hI;obtain ⟨m,hm⟩:∃ m,s.size-i=m+1:=⟨s.size-i-1,by omega⟩
  have hm2:s.size-(i+1)=m:=by omega
  rw [hm] at hI;simp only [Q9] at hI;have hli:(i:Int) < (s.size:Int):=by omega
  have hb:((s[i]?).map (fun x=>(x.toNat:Int))).getD 0=qQ s i:=rfl;simp only [go_sem,seval,hdi,Int.toNat_natCast,hb];(with_reducible and_intros)<;>first|exact .dq|omega|skip
  cases q:qQ s i==b
  ·rw [q,Bool.false_or] at hI;simp only [go_sem,seval,hwi];refine ah.step () hi (by rw [hm2];exact hI) ?_;simp only [go_sem,seval]
  ·rw [q,Bool.true_or] at hI;rw [<- hI];simp only [go_sem,seval]
 ·intro _ hdx hI;rw [Nat.sub_self] at hI;rw [<- hI];simp only [go_sem,seval,hdx,Q9]
def Lm:List ByteArray:=[⟨#[]⟩,⟨#[119,97]⟩,⟨#[105,99,113,97,115]⟩,⟨#[110,99,112,97]⟩,⟨#[119,99,97]⟩,⟨#[119,99,97]⟩,⟨#[119,110,113]⟩,⟨#[119,110,113]⟩,⟨#[119,99,97]⟩,⟨#[99,97]⟩,⟨#[119,111,105,113,112]⟩,⟨#[110]⟩,⟨#[110,113,112]⟩,⟨#[105,112]⟩,⟨#[]⟩,⟨#[]⟩,⟨#[]⟩,⟨#[97]⟩,⟨#[119,105,111,113,112]⟩,⟨#[119]⟩,⟨#[]⟩,⟨#[110,119,99]⟩,⟨#[119,105]⟩]
def dX (k:Int):ByteArray:=Lm.getD k.toNat ⟨#[]⟩
theorem zz (k:Int) (h:1<=k/\k<=22):Abs.Spec Tryz.prog 110 [] [.int .i64 k] [] (.str (dX k)):=by
 have hk:k=1\/k=2\/k=3\/k=4\/k=5\/k=6\/k=7\/k=8\/k=9\/k=10\/k=11\/k=12\/k=13\/k=14\/k=15\/k=16\/k=17\/k=18\/k=19\/k=20\/k=21\/k=22:=by omega
 clear h;rcases hk with rfl | rfl | rfl | rfl | rfl | rfl | rfl | rfl | rfl | rfl | rfl | rfl | rfl | rfl | rfl | rfl | rfl | rfl | rfl | rfl | rfl | rfl
 ·refine bg 17 1 [.tmp 2] mixed Tryz.func110 ?_;simp only [go_sem,seval];exact (rfl:(⟨#[119,97]⟩:ByteArray)=dX 1)
 ·refine bg 17 1 [.tmp 2] mixed Tryz.func110 ?_;simp only [go_sem,seval];exact (rfl:(⟨#[105,99,113,97,115]⟩:ByteArray)=dX 2)
 ·refine bg 17 1 [.tmp 2] mixed Tryz.func110 ?_;simp only [go_sem,seval];exact (rfl:(⟨#[110,99,112,97]⟩:ByteArray)=dX 3)
 ·refine bg 17 1 [.tmp 2] mixed Tryz.func110 ?_;simp only [go_sem,seval];exact (rfl:(⟨#[119,99,97]⟩:ByteArray)=dX 4)
 ·refine bg 17 1 [.tmp 2] mixed Tryz.func110 ?_;simp only [go_sem,seval];exact (rfl:(⟨#[119,99,97]⟩:ByteArray)=dX 5)
 ·refine bg 17 1 [.tmp 2] mixed Tryz.func110 ?_;simp only [go_sem,seval];exact (rfl:(⟨#[119,110,113]⟩:ByteArray)=dX 6)
 ·refine bg 17 1 [.tmp 2] mixed Tryz.func110 ?_;simp only [go_sem,seval];exact (rfl:(⟨#[119,110,113]⟩:ByteArray)=dX 7)
 ·refine bg 17 1 [.tmp 2] mixed Tryz.func110 ?_;simp only [go_sem,seval];exact (rfl:(⟨#[119,99,97]⟩:ByteArray)=dX 8)
 ·refine bg 17 1 [.tmp 2] mixed Tryz.func110 ?_;simp only [go_sem,seval];exact (rfl:(⟨#[99,97]⟩:ByteArray)=dX 9)
 ·refine bg 17 1 [.tmp 2] mixed Tryz.func110 ?_;simp only [go_sem,seval];exact (rfl:(⟨#[119,111,105,113,112]⟩:ByteArray)=dX 10)
 ·refine bg 17 1 [.tmp 2] mixed Tryz.func110 ?_;simp only [go_sem,seval];exact (rfl:(⟨#[110]⟩:ByteArray)=dX 11)
 ·refine bg 17 1 [.tmp 2] mixed Tryz.func110 ?_;simp only [go_sem,seval];exact (rfl:(⟨#[110,113,112]⟩:ByteArray)=dX 12)
 ·refine bg 17 1 [.tmp 2] mixed Tryz.func110 ?_;simp only [go_sem,seval];exact (rfl:(⟨#[105,112]⟩:ByteArray)=dX 13)
 ·refine bg 17 1 [.tmp 2] mixed Tryz.func110 ?_;simp only [go_sem,seval];exact (rfl:(⟨#[]⟩:ByteArray)=dX 14)
 ·refine bg 17 1 [.tmp 2] mixed Tryz.func110 ?_;simp only [go_sem,seval];exact (rfl:(⟨#[]⟩:ByteArray)=dX 15)
 ·refine bg 17 1 [.tmp 2] mixed Tryz.func110 ?_;simp only [go_sem,seval];exact (rfl:(⟨#[]⟩:ByteArray)=dX 16)
 ·refine bg 17 1 [.tmp 2] mixed Tryz.func110 ?_;simp only [go_sem,seval];exact (rfl:(⟨#[97]⟩:ByteArray)=dX 17)
 ·refine bg 17 1 [.tmp 2] mixed Tryz.func110 ?_;simp only [go_sem,seval];exact (rfl:(⟨#[119,105,111,113,112]⟩:ByteArray)=dX 18)
 ·refine bg 17 1 [.tmp 2] mixed Tryz.func110 ?_;simp only [go_sem,seval];exact (rfl:(⟨#[119]⟩:ByteArray)=dX 19)
 ·refine bg 17 1 [.tmp 2] mixed Tryz.func110 ?_;simp only [go_sem,seval];exact (rfl:(⟨#[]⟩:ByteArray)=dX 20)
 ·refine bg 17 1 [.tmp 2] mixed Tryz.func110 ?_;simp only [go_sem,seval];exact (rfl:(⟨#[110,119,99]⟩:ByteArray)=dX 21)
 ·refine bg 17 1 [.tmp 2] mixed Tryz.func110 ?_;simp only [go_sem,seval];exact (rfl:(⟨#[119,105]⟩:ByteArray)=dX 22)
def Hg (c:aZ) (b:Int):Int:=if b=119 then c.who else if b=111 then c.other else if b=110 then c.no else if b=105 then c.inst else if b=99 then c.cur else if b=113 then c.aV else if b=112 then c.aR else c.bW
theorem zV (c:aZ) (b:Int):Abs.Spec Tryz.prog 112 [] [.agg c.cells,.int .u8 b] [] (.int .i64 (Hg c b)):=by
 simp only [aZ.cells];unfold Hg;refine bg 36 2 [.tmp 4] mixed Tryz.func112 ?_;simp only [go_sem,seval];(with_reducible and_intros)<;>first|exact .dq|omega|skip
 by_cases q0:b=119
 ·have d:(b==119)=true:=by simpa using q0
  simp only [go_sem,seval,d,if_pos q0]
 have d0:(b==119)=false:=by simpa using q0
 simp only [go_sem,seval,d0]
 by_cases q1:b=111
 ·have d:(b==111)=true:=by simpa using q1
  simp only [go_sem,seval,d,if_pos q1,if_neg q0]
 have d1:(b==111)=false:=by simpa using q1
 simp only [go_sem,seval,d1]
 by_cases q2:b=110
 ·have d:(b==110)=true:=by simpa using q2
  simp only [go_sem,seval,d,if_pos q2,if_neg q0,if_neg q1]
 have d2:(b==110)=false:=by simpa using q2
 simp only [go_sem,seval,d2]
 by_cases q3:b=105
 ·have d:(b==105)=true:=by simpa using q3
  simp only [go_sem,seval,d,if_pos q3,if_neg q0,if_neg q1,if_neg q2]
 have d3:(b==105)=false:=by simpa using q3
 simp only [go_sem,seval,d3]
 by_cases q4:b=99
 ·have d:(b==99)=true:=by simpa using q4
  simp only [go_sem,seval,d,if_pos q4,if_neg q0,if_neg q1,if_neg q2,if_neg q3]
 have d4:(b==99)=false:=by simpa using q4
 simp only [go_sem,seval,d4]
 by_cases q5:b=113
 ·have d:(b==113)=true:=by simpa using q5
  simp only [go_sem,seval,d,if_pos q5,if_neg q0,if_neg q1,if_neg q2,if_neg q3,if_neg q4]
 have d5:(b==113)=false:=by simpa using q5
 simp only [go_sem,seval,d5]
 by_cases q6:b=112
 ·have d:(b==112)=true:=by simpa using q6
  simp only [go_sem,seval,d,if_pos q6,if_neg q0,if_neg q1,if_neg q2,if_neg q3,if_neg q4,if_neg q5]
 have d6:(b==112)=false:=by simpa using q6
 simp only [go_sem,seval,d6,if_neg q0,if_neg q1,if_neg q2,if_neg q3,if_neg q4,if_neg q5,if_neg q6]
def yX (c:aZ) (l a:ByteArray):Nat->Nat->Int
 | 0,_=>0
 | m+1,i=>if !hasB l (qQ a i)&&!(Hg c (qQ a i)==0) then 6 else yX c l a m (i+1)
def vC (c:aZ):Nat->Int
 | 0=>c.s0
 | 1=>c.s1
 | 2=>c.s2
 | 3=>c.s3
 | 4=>c.s4
 | _=>c.s5
def I4 (c:aZ) (l:ByteArray):Nat->Nat->Int
 | 0,_=>0
 | m+1,i=>if !hasB l 115&&!(vC c i==0) then 6 else I4 c l m (i+1)
def RP:ByteArray:=⟨#[119,111,110,105,99,113,112,97]⟩
def wZ (c:aZ):Int:=if within c.kind 1 22 then (if yX c (dX c.kind) RP 8 0=0 then (if I4 c (dX c.kind) 6 0=0 then (if within c.client 1 8 then 0 else 6) else 6) else 6) else 21
theorem I0 (c:aZ) (l a:ByteArray):∀ m i,yX c l a m i=0\/yX c l a m i=6
 | 0,_=>.inl rfl
 | m+1,i=>by simp only [yX];split;exact .inr rfl;exact I0 c l a m (i+1)
theorem Ju (k:Int):(dX k).size < 2 ^ 60:=by
 unfold dX;generalize k.toNat=n;rcases (by omega:n < 23\/23<=n) with h | h
 ·have:∀ n < 23,(Lm.getD n ⟨#[]⟩).size < 8:=by decide
  exact Nat.lt_trans (this n h) (by decide)
 ·rw [List.getD_eq_getElem?_getD,List.getElem?_eq_none (by simpa [Lm] using h)]
  decide
theorem C3 (c:aZ):Abs.Spec Tryz.prog 49 [] [.agg c.cells] [] (.int .i64 (wZ c)):=by
 have c1:=ga c.kind 1 22;have c2:=fun h=>zz c.kind h
 have c3:=ga c.client 1 8;have cH:=fun b=>DH (dX c.kind) b (Ju c.kind)
 have cF:=fun b=>zV c b
 obtain ⟨E,hE⟩:=aL (wZ c);rw [<- hE];simp only [wZ] at hE;obtain ⟨l,hl⟩:=aL (dX c.kind);rw [<- hl] at c2 cH hE;clear hl;simp only [aZ.cells] at cF |-;refine bg 52 1 [.tmp 2] mixed Tryz.func49 ?_;simp only [go_sem,seval];(with_reducible and_intros)<;>first|exact .dq|omega|skip
 refine aa.pure c1 ?_;cases b1:within c.kind 1 22
 ·rw [b1] at hE;rw [hE];simp only [go_sem,seval]<;>simp
 have c2:=c2 (by simpa [within] using b1);rw [b1,if_pos rfl] at hE;simp only [go_sem,seval];(with_reducible and_intros)<;>first|exact .dq|omega|skip
 refine aa.pure c2 ?_;clear c1 c2 b1;simp only [go_sem,seval];(with_reducible and_intros)<;>first|exact .dq|omega|skip
 rw [show (⟨#[119,111,110,105,99,113,112,97]⟩:ByteArray)=RP from rfl];have hA8:RP.size=8:=rfl;obtain ⟨A,hA⟩:=aL (RP);rw [<- hA] at hE hA8 |-;obtain ⟨F,hF⟩:=aL (yX c l A 8 0);rw [<- hF] at hE;have hF6:=I0 c l A 8 0;rw [<- hF] at hF6;refine aC.walk (S:=Unit) A.size [1,3,4] [32,224] (fun i _=>[(5,.int .i64 i)]) (fun _ _=>[]) (fun i _=>yX c l A (A.size-i) i=F) () (by rw [hA8];exact hF.symm) ?_ ?_ ?_
 ·simp only [go_sem,seval]
  try simp
 ·intro i _ hi hdi hwi hI;obtain ⟨m,hm⟩:∃ m,A.size-i=m+1:=⟨A.size-i-1,by omega⟩
  have hm2:A.size-(i+1)=m:=by omega
  rw [hm] at hI;simp only [yX] at hI;have hli:(i:Int) < (A.size:Int):=by omega
  have hb:((A[i]?).map (fun x=>(x.toNat:Int))).getD 0=qQ A i:=rfl;have cHi:=cH (qQ A i);have cFi:=cF (qQ A i);obtain ⟨b,hbb⟩:=aL (qQ A i);rw [<- hbb] at hb hI cHi cFi;clear cH cF c3;simp only [go_sem,seval,hdi,Int.toNat_natCast,hb];(with_reducible and_intros)<;>first|exact .dq|omega|skip
  refine aa.pure cHi ?_;cases q:hasB l b
  ·rw [q,Bool.not_false,Bool.true_and] at hI;simp only [go_sem,seval,Int.toNat_natCast,hb];(with_reducible and_intros)<;>first|exact .dq|omega|skip
   refine aa.pure cFi ?_;cases q2:Hg c b==0
   ·rw [q2,Bool.not_false,if_pos rfl] at hI;have:E=6:=by rw [hE,<- hI];rfl
    rw [this];simp only [go_sem,seval,bne,q2]
   ·rw [q2] at hI;simp only [go_sem,seval,bne,q2,hwi];refine ah.step () hi (by rw [hm2];simpa using hI) ?_;simp only [go_sem,seval]
  ·rw [q] at hI;simp only [go_sem,seval,hwi];refine ah.step () hi (by rw [hm2];simpa using hI) ?_;simp only [go_sem,seval]
 intro _ hdx hI;rw [Nat.sub_self] at hI;have hI:F=0:=hI.symm;rw [if_pos hI] at hE;clear hF hF6 cF hI;obtain ⟨G,hG⟩:=aL (I4 c l 6 0);rw [<- hG] at hE;have cH:=cH 115;simp only [go_sem,seval,hdx];(with_reducible and_intros)<;>first|exact .dq|omega|skip
 refine aC.walk (S:=Unit) 6 [1,3] [32,224] (fun i _=>[(6,.int .i64 i)]) (fun _ _=>[]) (fun i _=>I4 c l (6-i) i=G) () hG.symm ?_ ?_ ?_
 ·simp only [go_sem,seval]
  try simp
 ·intro i _ hi hdi hwi hI;have hdi:decide ((i:Int) < 6)=true:=hdi;obtain ⟨m,hm⟩:∃ m,6-i=m+1:=⟨6-i-1,by omega⟩
  have hm2:6-(i+1)=m:=by omega
  rw [hm] at hI;simp only [I4] at hI;simp only [go_sem,seval,hdi];(with_reducible and_intros)<;>first|exact .dq|omega|skip
  refine aa.pure cH ?_;cases q:hasB l 115
  case true =>
   rw [q] at hI;simp only [go_sem,seval,hwi];refine ah.step () hi (by rw [hm2];simpa using hI) ?_;simp only [go_sem,seval]
  rw [q,Bool.not_false,Bool.true_and] at hI;rcases (by omega:i=0\/i=1\/i=2\/i=3\/i=4\/i=5) with rfl | rfl | rfl | rfl | rfl | rfl
  ·simp only [vC] at hI;cases q2:c.s0==0
   ·rw [q2,Bool.not_false,if_pos rfl] at hI;have:E=6:=by rw [hE,<- hI];rfl
    rw [this];simp only [go_sem,seval,bne,q2]<;>simp
   ·rw [q2] at hI;simp only [go_sem,seval,bne,q2,hwi];refine ah.step () hi (by rw [hm2];simpa using hI) ?_;simp only [go_sem,seval];rfl
  ·simp only [vC] at hI;cases q2:c.s1==0
   ·rw [q2,Bool.not_false,if_pos rfl] at hI;have:E=6:=by rw [hE,<- hI];rfl
    rw [this];simp only [go_sem,seval,bne,q2]<;>simp
   ·rw [q2] at hI;simp only [go_sem,seval,bne,q2,hwi];refine ah.step () hi (by rw [hm2];simpa using hI) ?_;simp only [go_sem,seval];rfl
  ·simp only [vC] at hI;cases q2:c.s2==0
   ·rw [q2,Bool.not_false,if_pos rfl] at hI;have:E=6:=by rw [hE,<- hI];rfl
    rw [this];simp only [go_sem,seval,bne,q2]<;>simp
   ·rw [q2] at hI;simp only [go_sem,seval,bne,q2,hwi];refine ah.step () hi (by rw [hm2];simpa using hI) ?_;simp only [go_sem,seval];rfl
  ·simp only [vC] at hI;cases q2:c.s3==0
   ·rw [q2,Bool.not_false,if_pos rfl] at hI;have:E=6:=by rw [hE,<- hI];rfl
    rw [this];simp only [go_sem,seval,bne,q2]<;>simp
   ·rw [q2] at hI;simp only [go_sem,seval,bne,q2,hwi];refine ah.step () hi (by rw [hm2];simpa using hI) ?_;simp only [go_sem,seval];rfl
  ·simp only [vC] at hI;cases q2:c.s4==0
   ·rw [q2,Bool.not_false,if_pos rfl] at hI;have:E=6:=by rw [hE,<- hI];rfl
    rw [this];simp only [go_sem,seval,bne,q2]<;>simp
   ·rw [q2] at hI;simp only [go_sem,seval,bne,q2,hwi];refine ah.step () hi (by rw [hm2];simpa using hI) ?_;simp only [go_sem,seval];rfl
  ·simp only [vC] at hI;cases q2:c.s5==0
   ·rw [q2,Bool.not_false,if_pos rfl] at hI;have:E=6:=by rw [hE,<- hI];rfl
    rw [this];simp only [go_sem,seval,bne,q2]<;>simp
   ·rw [q2] at hI;simp only [go_sem,seval,bne,q2,hwi];refine ah.step () hi (by rw [hm2];simpa using hI) ?_;simp only [go_sem,seval];rfl
 intro _ hdx hI;have hI:G=0:=hI.symm;rw [if_pos hI] at hE;have hdx:decide (((6:Nat):Int) < 6)=false:=hdx;simp only [go_sem,seval];(with_reducible and_intros)<;>first|exact .dq|omega|skip
 refine aa.pure c3 ?_;cases b3:within c.client 1 8
 ·rw [b3] at hE;rw [hE];simp only [go_sem,seval]<;>simp
 ·rw [b3] at hE;rw [hE];simp only [go_sem,seval]<;>simp
def bk.err (e:Int):bk:=⟨e,0,0,[],[]⟩
def xW (c:aZ) (last:Int):bk × Bool:=if c.seq=IntKind.wrap .i64 (last+1) then (if 1099511627776 < c.seq then (.err 1,true) else (.err 0,false)) else (.err 19,true)
def bE.zero:bE:=⟨0,0,.err 0⟩
def kR (s:af) (i:Int):bE:=s.aJ.getD i.toNat .zero
def lA (s:af) (c:aZ):bk × Bool:=
 if wZ c=0 then (if 0<=gr c.client s.aJ 0 then (if c.seq=(kR s (gr c.client s.aJ 0)).seq then ((kR s (gr c.client s.aJ 0)).r,true) else if c.seq < (kR s (gr c.client s.aJ 0)).seq then (.err 18,true) else xW c (kR s (gr c.client s.aJ 0)).seq) else xW c 0) else (.err (wZ c),true)
theorem Jy (n:Int):∀ (l:List bE) (k:Int),0<=k->0<=gr n l k->∃ j:Nat,j < l.length/\gr n l k=k+j
 | [],k,_,h=>by simp [gr] at h
 | x :: r,k,hk,h=>by
  simp only [gr] at h |-;split
  ·exact ⟨0,by simp,by simp⟩
  ·rename_i hx;rw [if_neg hx] at h;obtain ⟨j,h1,h2⟩:=Jy n r (k+1) (by omega) h;exact ⟨j+1,by simp;omega,by rw [h2];omega⟩
theorem rK (s:af) (c:aZ) (hs:s.small):Abs.Spec Tryz.prog 28 [] [.agg s.cells,.agg c.cells] [] (.bI [.agg (lA s c).1.cells,.bool (lA s c).2]):=by
 have c1:=C3 c;have c2:=sH s c.client (by have:=hs.aJ;omega);have hlt:=Jy c.client s.aJ 0 (by omega);obtain ⟨E,hE⟩:=aL (lA s c);rw [<- hE];simp only [lA] at hE;obtain ⟨fe,hfe⟩:=aL (wZ c);obtain ⟨i,hi⟩:=aL (gr c.client s.aJ 0);rw [<- hfe] at c1 hE;rw [<- hi] at c2 hE hlt;clear hfe hi;simp only [aZ.cells] at c1 |-;simp only [af.cells] at c2 |-;refine bg 54 2 [.cell 4 67,.tmp 5] mixed Tryz.func28 ?_;simp only [go_sem,seval];(with_reducible and_intros)<;>first|exact .dq|omega|skip
 refine aa.pure c1 ?_;clear c1
 by_cases b1:fe=0
 case neg =>
  have d:(fe==0)=false:=by simpa using b1
  rw [if_neg b1] at hE;rw [hE];simp only [go_sem,seval,bne,d]<;>simp [bk.err]
 rw [if_pos b1] at hE;rw [b1];simp only [go_sem,seval];(with_reducible and_intros)<;>first|exact .dq|omega|skip
 refine aa.pure c2 ?_;clear c2
 by_cases b2:0<=i
 case neg =>
  have d:decide (0<=i)=false:=by simpa using b2
  rw [if_neg b2] at hE;simp only [xW,show IntKind.wrap .i64 (0+1)=1 from rfl] at hE;have hw1:IntKind.wrap .i64 1=1:=rfl;simp only [go_sem,seval,d,hw1];(with_reducible and_intros)<;>first|exact .dq|omega|skip
  by_cases b3:c.seq=1
  ·rw [if_pos b3,b3] at hE;have hE:E=(.err 0,false):=hE;rw [hE,b3];simp only [go_sem,seval]<;>simp [bk.err]
  ·have d3:(c.seq==1)=false:=by simpa using b3
   rw [if_neg b3] at hE;rw [hE];simp only [go_sem,seval,bne,d3]<;>simp [bk.err]
 obtain ⟨j,hj,hij⟩:=hlt b2;have hij:i=(j:Int):=by omega
 subst hij;have d:decide ((0:Int)<=(j:Int))=true:=by simp
 have hat:kR s (j:Int)=s.aJ[j]:=by simp [kR,hj]
 rw [if_pos b2,hat] at hE;have hm:=aD (c:=bE.cells) s.aJ hj;have hfit:=hs.rs _ (List.getElem_mem hj);have hlj:(j:Int) < (s.aJ.length:Int):=by omega
 obtain ⟨x,hx⟩:=aL (s.aJ[j]);rw [<- hx] at hE hm hfit;have cT:=lI x.r hfit;simp only [bE.cells] at hm;simp only [bk.cells] at cT;simp only [go_sem,seval,d,aG,hm,Int.toNat_natCast];(with_reducible and_intros)<;>first|exact .dq|omega|skip
 by_cases b3:c.seq=x.seq
 ·have d3:(c.seq==x.seq)=true:=by simpa using b3
  rw [if_pos b3] at hE;rw [hE];simp only [go_sem,seval,d3,aG,hm,Int.toNat_natCast];(with_reducible and_intros)<;>first|exact .dq|omega|skip
  refine aa.pure cT ?_;simp only [go_sem,seval]<;>simp
 have d3:(c.seq==x.seq)=false:=by simpa using b3
 rw [if_neg b3] at hE;simp only [go_sem,seval,d3];(with_reducible and_intros)<;>first|exact .dq|omega|skip
 by_cases b4:c.seq < x.seq
 ·have d4:decide (c.seq < x.seq)=true:=by simpa using b4
  rw [if_pos b4] at hE;rw [hE];simp only [go_sem,seval,d4]<;>simp [bk.err]
 have d4:decide (c.seq < x.seq)=false:=by simpa using b4
 rw [if_neg b4] at hE;simp only [xW] at hE;obtain ⟨v,hv⟩:=aL (IntKind.wrap .i64 (x.seq+1));rw [<- hv] at hE;simp only [go_sem,seval,d4,<- hv];(with_reducible and_intros)<;>first|exact .dq|omega|skip
 by_cases b5:c.seq=v
 ·have d5:(c.seq==v)=true:=by simpa using b5
  rw [if_pos b5] at hE;simp only [go_sem,seval,bne,d5];(with_reducible and_intros)<;>first|exact .dq|omega|skip
  by_cases b6:1099511627776 < c.seq
  ·have d6:decide (1099511627776 < c.seq)=true:=by simpa using b6
   rw [if_pos b6] at hE;rw [hE];simp only [go_sem,seval,d6]<;>simp [bk.err]
  ·have d6:decide (1099511627776 < c.seq)=false:=by simpa using b6
   rw [if_neg b6] at hE;rw [hE];simp only [go_sem,seval,d6]<;>simp [bk.err]
 ·have d5:(c.seq==v)=false:=by simpa using b5
  rw [if_neg b5] at hE;rw [hE];simp only [go_sem,seval,bne,d5]<;>simp [bk.err]
def sj (s:af) (g:List aW):Int:=eI s.aU (nextId s.aU) g
def kF (s:af) (g:List aW):af:=if sj s g=0 then { s with aU:=gF s.aU (nextId s.aU) g } else s
theorem iR (s:af) (g:List aW) (hl:s.aU.bs.length < 2 ^ 30) (hr:∀ b∈s.aU.bs,b.cE) (hg:g.length < 2 ^ 29) :
  Abs.Spec Tryz.prog 58 [.box s.cells] [.addr 0 0,.sl 4 (g.map aW.cells)] [.box (kF s g).cells] (.int .i64 (sj s g)):=by
 have c1:=pM s.aU (nextId s.aU) g hl hr hg;obtain ⟨S,hS⟩:=aL (kF s g);rw [<- hS];simp only [kF] at hS;obtain ⟨e,he⟩:=aL (sj s g);rw [<- he] at hS |-;simp only [sj] at he;rw [<- he] at c1;clear he;simp only [bq.cells,nextId] at c1;simp only [nextId] at hS;simp only [af.cells];refine bg 29 2 [.tmp 4] mixed Tryz.func58 ?_;simp only [go_sem,seval];(with_reducible and_intros)<;>first|exact .dq|omega|skip
 refine aa.pure c1 ?_;simp only [go_sem,seval];(with_reducible and_intros)<;>first|exact .dq|omega|skip
 by_cases b1:e=0
 ·have d:(e==0)=true:=by simpa using b1
  rw [if_pos b1] at hS;rw [hS];simp only [go_sem,seval,d]
 ·have d:(e==0)=false:=by simpa using b1
  rw [if_neg b1] at hS;rw [hS];simp only [go_sem,seval,d]
structure af.good (s:af):Prop where
 small:s.small
 cE:s.cE
 ms:s.aj.ms.length < 2 ^ 27
 qs:s.book.qs.length < 2 ^ 20
 aX:s.aX.length < 2 ^ 20
 bs:s.aU.bs.length < 2 ^ 29
 ps:s.ps.length < 2 ^ 28
theorem af.good.aU {s:af} (h:s.good) {l:bq} (hl:l.fZ):({ s with aU:=l }:af).good:=
 ⟨⟨h.small.aj,h.small.book,Nat.lt_trans hl.1 (by decide),h.small.ps,h.small.calls,h.small.aX,h.small.aJ,h.small.rs⟩,
  ⟨h.cE.now,h.cE.day,h.cE.phase,h.cE.ms,h.cE.ns,h.cE.xs,h.cE.next,h.cE.ts,h.cE.qs,hl.2.2,hl.2.1,h.cE.ps,h.cE.calls,h.cE.aX,h.cE.aJ⟩,h.ms,h.qs,h.aX,hl.1,h.ps⟩
theorem af.good.fZ {s:af} (h:s.good):s.aU.fZ:=⟨h.bs,h.cE.bs,h.cE.last⟩
theorem Fb {s:af} (h:s.good) (g:List aW):(kF s g).good:=by
 unfold kF;split
 ·exact h.aU Ex
 ·exact h
def TW (s:af) (d:aN):af:={ s with calls:=rI s.calls d }
def nV (s:af) (c:aZ):af × Int:=
 if aH.right ⟨2,c.who,c.cur⟩&&within c.bW 1 4611686018427387904 then
  (if Dl s.aj c.who=0 then
   (if c.kind=8 then (kF s (bN ⟨1,0,c.cur⟩ ⟨3,c.who,c.cur⟩ c.bW),sj s (bN ⟨1,0,c.cur⟩ ⟨3,c.who,c.cur⟩ c.bW))
   else if c.kind=4 then
    (if sj s (bN ⟨1,0,c.cur⟩ ⟨2,c.who,c.cur⟩ c.bW)=0 then (TW (kF s (bN ⟨1,0,c.cur⟩ ⟨2,c.who,c.cur⟩ c.bW)) ⟨c.who,c.cur,c.bW⟩,qu s.calls ⟨c.who,c.cur,c.bW⟩)
    else (kF s (bN ⟨1,0,c.cur⟩ ⟨2,c.who,c.cur⟩ c.bW),sj s (bN ⟨1,0,c.cur⟩ ⟨2,c.who,c.cur⟩ c.bW)))
   else
    (kF s (bN ⟨2,c.who,c.cur⟩ ⟨1,0,c.cur⟩ c.bW),if sj s (bN ⟨2,c.who,c.cur⟩ ⟨1,0,c.cur⟩ c.bW)=0 then NC (kF s (bN ⟨2,c.who,c.cur⟩ ⟨1,0,c.cur⟩ c.bW)) c.who c.cur else sj s (bN ⟨2,c.who,c.cur⟩ ⟨1,0,c.cur⟩ c.bW)))
  else (s,Dl s.aj c.who))
 else (s,3)
theorem pR (s:af) (c:aZ) (h:s.good):Abs.Spec Tryz.prog 53 [.box s.cells] [.addr 0 0,.agg c.cells] [.box (nV s c).1.cells] (.int .i64 (nV s c).2):=by
 have c1:=gB 2 c.who c.cur;have c2:=gB 1 0 c.cur;have c3:=gB 3 c.who c.cur;have c4:=fI ⟨2,c.who,c.cur⟩;have c5:=ga c.bW 1 4611686018427387904;have c6:=qa s c.who h.small.aj.small;have m8:=ij ⟨1,0,c.cur⟩ ⟨3,c.who,c.cur⟩ c.bW;have m4:=ij ⟨1,0,c.cur⟩ ⟨2,c.who,c.cur⟩ c.bW;have m5:=ij ⟨2,c.who,c.cur⟩ ⟨1,0,c.cur⟩ c.bW;have hgl:∀ a b n,(bN a b n).length < 2 ^ 29:=fun _ _ _=>by simp [bN]
 have p8:=iR s (bN ⟨1,0,c.cur⟩ ⟨3,c.who,c.cur⟩ c.bW) h.small.aU h.cE.bs (hgl _ _ _);have p4:=iR s (bN ⟨1,0,c.cur⟩ ⟨2,c.who,c.cur⟩ c.bW) h.small.aU h.cE.bs (hgl _ _ _);have p5:=iR s (bN ⟨2,c.who,c.cur⟩ ⟨1,0,c.cur⟩ c.bW) h.small.aU h.cE.bs (hgl _ _ _);have cM:=wP s.calls ⟨c.who,c.cur,c.bW⟩ h.small.calls;have g5:=Fb h (bN ⟨2,c.who,c.cur⟩ ⟨1,0,c.cur⟩ c.bW);have cC:=oT (kF s (bN ⟨2,c.who,c.cur⟩ ⟨1,0,c.cur⟩ c.bW)) c.who c.cur g5.small g5.cE g5.bs (by have:=g5.ps;omega);have hcal:(kF s (bN ⟨1,0,c.cur⟩ ⟨2,c.who,c.cur⟩ c.bW)).calls=s.calls:=by unfold kF;split<;>rfl
 clear g5 hgl;obtain ⟨R,hR⟩:=aL (nV s c);rw [<- hR];simp only [nV] at hR;obtain ⟨L8,h8⟩:∃ L,L=bN ⟨1,0,c.cur⟩ ⟨3,c.who,c.cur⟩ c.bW:=⟨_,rfl⟩
 obtain ⟨L4,h4⟩:∃ L,L=bN ⟨1,0,c.cur⟩ ⟨2,c.who,c.cur⟩ c.bW:=⟨_,rfl⟩
 obtain ⟨L5,h5⟩:∃ L,L=bN ⟨2,c.who,c.cur⟩ ⟨1,0,c.cur⟩ c.bW:=⟨_,rfl⟩
 rw [<- h8] at m8 p8 hR;rw [<- h4] at m4 p4 hR hcal;rw [<- h5] at m5 p5 cC hR;clear h8 h4 h5;obtain ⟨S8,s8⟩:∃ S,S=kF s L8:=⟨_,rfl⟩
 obtain ⟨S4,s4⟩:∃ S,S=kF s L4:=⟨_,rfl⟩
 obtain ⟨S5,s5⟩:∃ S,S=kF s L5:=⟨_,rfl⟩
 obtain ⟨E8,e8⟩:∃ E,E=sj s L8:=⟨_,rfl⟩
 obtain ⟨E4,e4⟩:∃ E,E=sj s L4:=⟨_,rfl⟩
 obtain ⟨E5,e5⟩:∃ E,E=sj s L5:=⟨_,rfl⟩
 rw [<- s8,<- e8] at p8;rw [<- s4,<- e4] at p4;rw [<- s5,<- e5] at p5;rw [<- s4] at hcal;rw [<- s5] at cC;rw [<- s8,<- s4,<- s5,<- e8,<- e4,<- e5] at hR;clear s8 s4 s5 e8 e4 e5;rw [<- hcal] at cM hR;simp only [TW] at hR;obtain ⟨ML,hML⟩:∃ M,M=rI S4.calls ⟨c.who,c.cur,c.bW⟩:=⟨_,rfl⟩
 obtain ⟨me,hme⟩:∃ M,M=qu S4.calls ⟨c.who,c.cur,c.bW⟩:=⟨_,rfl⟩
 obtain ⟨ce,hce⟩:∃ M,M=NC S5 c.who c.cur:=⟨_,rfl⟩
 obtain ⟨ae,hae⟩:∃ M,M=Dl s.aj c.who:=⟨_,rfl⟩
 rw [<- hML,<- hme] at cM;rw [<- hce] at cC;rw [<- hae] at c6;rw [<- hML,<- hme,<- hce,<- hae] at hR;clear hML hme hce hae hcal;simp only [aH.cells] at c4 m8 m4 m5;simp only [aN.cells] at cM;simp only [af.cells] at c6 p8 p4 p5 cC |-;simp only [aZ.cells];refine bg 97 2 [.tmp 4] mixed Tryz.func53 ?_;simp only [go_sem,seval];(with_reducible and_intros)<;>first|exact .dq|omega|skip
 refine aa.pure c1 ?_;simp only [go_sem,seval];(with_reducible and_intros)<;>first|exact .dq|omega|skip
 refine aa.pure c2 ?_;simp only [go_sem,seval];(with_reducible and_intros)<;>first|exact .dq|omega|skip
 refine aa.pure c4 ?_;cases b1:aH.right ⟨2,c.who,c.cur⟩
 ·rw [b1] at hR;have hR:R=(s,3):=hR;rw [hR];simp only [go_sem,seval]<;>simp
 rw [b1,Bool.true_and] at hR;simp only [go_sem,seval];(with_reducible and_intros)<;>first|exact .dq|omega|skip
 refine aa.pure c5 ?_;cases b2:within c.bW 1 4611686018427387904
 ·rw [b2] at hR;have hR:R=(s,3):=hR;rw [hR];simp only [go_sem,seval]<;>simp
 rw [b2,if_pos rfl] at hR;simp only [go_sem,seval];(with_reducible and_intros)<;>first|exact .dq|omega|skip
 refine aa.pure c6 ?_
 by_cases b3:ae=0
 case neg =>
  have d:(ae==0)=false:=by simpa using b3
  rw [if_neg b3] at hR;rw [hR];simp only [go_sem,seval,bne,d]<;>simp
 rw [if_pos b3] at hR;rw [b3];clear c1 c2 c4 c5 c6 b1 b2 b3;simp only [go_sem,seval];(with_reducible and_intros)<;>first|exact .dq|omega|skip
 by_cases k8:c.kind=8
 ·have d:(c.kind==8)=true:=by simpa using k8
  rw [if_pos k8] at hR;rw [hR];simp only [go_sem,seval,d];(with_reducible and_intros)<;>first|exact .dq|omega|skip
  refine aa.pure c3 ?_;simp only [go_sem,seval];(with_reducible and_intros)<;>first|exact .dq|omega|skip
  refine aa.pure m8 ?_;simp only [go_sem,seval];(with_reducible and_intros)<;>first|exact .dq|omega|skip
  refine aa.gen [] [0] false (by simp) ?_;simp only [go_sem,seval];refine aY.intro p8 ?_;simp only [go_sem,seval]
 have d8:(c.kind==8)=false:=by simpa using k8
 rw [if_neg k8] at hR;simp only [go_sem,seval,d8];(with_reducible and_intros)<;>first|exact .dq|omega|skip
 by_cases k4:c.kind=4
 ·have d:(c.kind==4)=true:=by simpa using k4
  rw [if_pos k4] at hR;simp only [go_sem,seval,d];(with_reducible and_intros)<;>first|exact .dq|omega|skip
  refine aa.pure m4 ?_;simp only [go_sem,seval];(with_reducible and_intros)<;>first|exact .dq|omega|skip
  refine aa.gen [] [0] false (by simp) ?_;simp only [go_sem,seval];refine aY.intro p4 ?_;simp only [go_sem,seval];(with_reducible and_intros)<;>first|exact .dq|omega|skip
  by_cases q:E4=0
  ·have d:(E4==0)=true:=by simpa using q
   rw [if_pos q] at hR;rw [hR];simp only [go_sem,seval,d];(with_reducible and_intros)<;>first|exact .dq|omega|skip
   refine aa.pure cM ?_;simp only [go_sem,seval];(with_reducible and_intros)<;>first|exact .dq|omega|skip
  ·have d:(E4==0)=false:=by simpa using q
   rw [if_neg q] at hR;rw [hR];simp only [go_sem,seval,d]
 have d4:(c.kind==4)=false:=by simpa using k4
 rw [if_neg k4] at hR;simp only [go_sem,seval,d4];(with_reducible and_intros)<;>first|exact .dq|omega|skip
 refine aa.pure m5 ?_;simp only [go_sem,seval];(with_reducible and_intros)<;>first|exact .dq|omega|skip
 refine aa.gen [] [0] false (by simp) ?_;simp only [go_sem,seval];refine aY.intro p5 ?_;simp only [go_sem,seval];(with_reducible and_intros)<;>first|exact .dq|omega|skip
 by_cases q:E5=0
 ·have d:(E5==0)=true:=by simpa using q
  rw [if_pos q] at hR;rw [hR];simp only [go_sem,seval,d];(with_reducible and_intros)<;>first|exact .dq|omega|skip
  refine aa.pure cC ?_;simp only [go_sem,seval]
 ·have d:(E5==0)=false:=by simpa using q
  rw [if_neg q] at hR;rw [hR];simp only [go_sem,seval,d]
theorem yw (ps:List eO) (w a u:Int) (hl:ps.length < 2 ^ 29):Abs.Spec Tryz.prog 123 [] [.sl 3 (pl ps),.int .i64 w,.int .i64 a,.int .i64 u] [] (.bI [.sl 3 (pl (cR ps w a u)),.int .i64 (dR ps w a u)]):=by
 refine Spec.frozen (Dm ps w a u hl) [0] rfl ?_;intro r;rcases r with _ | r<;>rfl
def LY (r:au) (n:Int):Bool:=decide (0<=fT av.a n r.xs)
def nH (r:au) (n:Int):av:=eP av.a n ⟨0,0,0,0⟩ r.xs
def n8 (c:aZ):Int:=if c.kind=7 then -c.aV else c.aV
def jY (s:af) (c:aZ) (n:Int):af × Int:=
 if within c.aV 1 1099511627776 then
  (if eJ s.aj c.who&&LY s.aj c.no then
   (if (fc s.aj c.who).state=1 then
    (if dR s.ps c.who c.no n=0 then
     (if n < 0 then ({ s with ps:=cR s.ps c.who c.no n },NC { s with ps:=cR s.ps c.who c.no n } c.who (nH s.aj c.no).b)
     else if (nH s.aj c.no).E n=0 then ({ s with ps:=cR s.ps c.who c.no n,calls:=rI s.calls ⟨c.who,(nH s.aj c.no).b,(nH s.aj c.no).V n⟩ },qu s.calls ⟨c.who,(nH s.aj c.no).b,(nH s.aj c.no).V n⟩)
     else ({ s with ps:=cR s.ps c.who c.no n },(nH s.aj c.no).E n))
    else (s,dR s.ps c.who c.no n))
   else (s,14))
  else (s,10))
 else (s,3)
theorem xx {ps:List eO} {w a u:Int} (h:dR ps w a u=0):Good (cR ps w a u):=by
 obtain ⟨h1,h2,h3,h4,h5,h6⟩:=NG h;unfold cR;rw [if_pos h];exact JM h2 h6 h1
theorem Q1 {p:eO} (h:p.ok):p.cE:=by
 obtain ⟨h1,h2,h3⟩:=h;have:=lU.1 h1;exact ⟨⟨by omega,by omega⟩,⟨by omega,by omega⟩,⟨by omega,by omega⟩⟩
theorem qd (s:af) (c:aZ) (h:s.good):Abs.Spec Tryz.prog 54 [.box s.cells] [.addr 0 0,.agg c.cells] [.box (jY s c (n8 c)).1.cells] (.int .i64 (jY s c (n8 c)).2):=by
 have c1:=ga c.aV 1 1099511627776;have c2:=cj s.aj c.who h.small.aj.small;have c3:=ku s.aj c.no h.small.aj.small;have e3:eP av.a c.no ⟨0,0,0,0⟩ s.aj.xs=nH s.aj c.no:=rfl;have e4:decide (0<=fT av.a c.no s.aj.xs)=LY s.aj c.no:=rfl;rw [e3,e4] at c3;have c5:=fun n=>yw s.ps c.who c.no n (by have:=h.ps;omega)
 have cM:=fun d=>wP s.calls d h.small.calls
 have cV:=fun n=>uX (nH s.aj c.no) n
 have cC:∀ n,dR s.ps c.who c.no n=0->_:=fun n hn=>oT { s with ps:=cR s.ps c.who c.no n } c.who (nH s.aj c.no).b
  ⟨h.small.aj,h.small.book,h.small.aU,by have:=Gw c.who c.no (bU c.who c.no s.ps+n) s.ps;have:=h.ps;simp only [cR,if_pos hn];omega,h.small.calls,h.small.aX,h.small.aJ,h.small.rs⟩
  ⟨h.cE.now,h.cE.day,h.cE.phase,h.cE.ms,h.cE.ns,h.cE.xs,h.cE.next,h.cE.ts,h.cE.qs,h.cE.last,h.cE.bs,fun p hp=>Q1 ((xx hn).1 p hp),h.cE.calls,h.cE.aX,h.cE.aJ⟩
  h.bs (by have:=Gw c.who c.no (bU c.who c.no s.ps+n) s.ps;have:=h.ps;simp only [cR,if_pos hn];omega)
 obtain ⟨n,hn⟩:=aL (n8 c);rw [<- hn];have c5:=c5 n;have cV:=cV n;have cC:=cC n;obtain ⟨R,hR⟩:=aL (jY s c n);rw [<- hR];simp only [jY] at hR;obtain ⟨m,hm⟩:=aL (fc s.aj c.who);obtain ⟨a,ha⟩:=aL (nH s.aj c.no);obtain ⟨mi,hmi⟩:∃ m,m=eJ s.aj c.who:=⟨_,rfl⟩
 obtain ⟨ai,hai⟩:∃ m,m=LY s.aj c.no:=⟨_,rfl⟩
 rw [<- hm,<- hmi] at c2;rw [<- ha,<- hai] at c3;rw [<- ha] at cV;simp only [<- ha] at cC;rw [<- hm,<- hmi,<- ha,<- hai] at hR;obtain ⟨qs,hqs⟩:∃ l,l=cR s.ps c.who c.no n:=⟨_,rfl⟩
 obtain ⟨qe,hqe⟩:∃ l,l=dR s.ps c.who c.no n:=⟨_,rfl⟩
 rw [<- hqs,<- hqe] at c5 hR;rw [<- hqs,<- hqe] at cC;obtain ⟨ce,hce⟩:∃ e,e=NC { s with ps:=qs } c.who a.b:=⟨_,rfl⟩
 rw [<- hce] at cC hR;clear hm ha hmi hai hqs hqe hce e3 e4;have cM:=cM ⟨c.who,a.b,a.V n⟩;simp only [au.cells] at c2 c3;simp only [av.cells] at c3 cV;simp only [aN.cells] at cM;obtain ⟨V,hV⟩:=aL (a.V n);obtain ⟨ve,hve⟩:∃ V,V=a.E n:=⟨_,rfl⟩
 rw [<- hV] at cM;rw [<- hV,<- hve] at cV hR;obtain ⟨ML,hML⟩:∃ M,M=rI s.calls ⟨c.who,a.b,V⟩:=⟨_,rfl⟩
 obtain ⟨me,hme⟩:∃ M,M=qu s.calls ⟨c.who,a.b,V⟩:=⟨_,rfl⟩
 rw [<- hML,<- hme] at cM hR;clear hV hve hML hme;simp only [af.cells] at cC |-;simp only [aZ.cells];refine bg 109 2 [.tmp 4] mixed Tryz.func54 ?_;simp only [go_sem,seval];(with_reducible and_intros)<;>first|exact .dq|omega|skip
 refine aa.pure c1 ?_;cases b1:within c.aV 1 1099511627776
 ·rw [b1] at hR;have hR:R=(s,3):=hR;rw [hR];simp only [go_sem,seval]<;>simp
 rw [b1,if_pos rfl] at hR;simp only [within,bZ,decide_eq_true_eq] at b1;simp only [go_sem,seval];(with_reducible and_intros)<;>first|exact .dq|omega|skip
 refine aa.pure c2 ?_;simp only [go_sem,seval];(with_reducible and_intros)<;>first|exact .dq|omega|skip
 refine aa.pure c3 ?_;clear c1 c2 c3;cases b2:mi
 ·rw [b2] at hR;have hR:R=(s,10):=hR;rw [hR];simp only [go_sem,seval];(with_reducible and_intros)<;>first|exact .dq|omega|skip
 rw [b2,Bool.true_and] at hR;cases b3:ai
 ·rw [b3] at hR;have hR:R=(s,10):=hR;rw [hR];simp only [go_sem,seval];(with_reducible and_intros)<;>first|exact .dq|omega|skip
 rw [b3,if_pos rfl] at hR;simp only [go_sem,seval];(with_reducible and_intros)<;>first|exact .dq|omega|skip
 by_cases b4:m.state=1
 case neg =>
  have d:(m.state==1)=false:=by simpa using b4
  rw [if_neg b4] at hR;rw [hR];simp only [go_sem,seval,bne,d]<;>simp
 have d4:(m.state==1)=true:=by simpa using b4
 rw [if_pos b4] at hR;have hw:IntKind.wrap .i64 (0-c.aV) = -c.aV:=by rw [bz (by omega) (by omega)];omega
 simp only [go_sem,seval,bne,d4];(with_reducible and_intros)<;>first|exact .dq|omega|skip
 by_cases k7:c.kind=7
 ·have dk:(c.kind==7)=true:=by simpa using k7
  have hn:-c.aV=n:=by rw [hn];simp [n8,k7]
  simp only [go_sem,seval,dk,hw,hn];(with_reducible and_intros)<;>first|exact .dq|omega|skip
  refine aa.pure c5 ?_
  by_cases q:qe=0
  case neg =>
   have d:(qe==0)=false:=by simpa using q
   rw [if_neg q] at hR;rw [hR];simp only [go_sem,seval,bne,d]<;>simp
  rw [if_pos q] at hR;have cC:=cC q;rw [q];simp only [go_sem,seval];(with_reducible and_intros)<;>first|exact .dq|omega|skip
  have q2:n < 0:=by omega
  have d2:decide (n < 0)=true:=by simpa using q2
  rw [if_pos q2] at hR;rw [hR];simp only [go_sem,seval,d2];(with_reducible and_intros)<;>first|exact .dq|omega|skip
  refine aa.pure cC ?_;simp only [go_sem,seval]
 ·have dk:(c.kind==7)=false:=by simpa using k7
  have hn:c.aV=n:=by rw [hn];simp [n8,k7]
  simp only [go_sem,seval,dk,hw,hn];(with_reducible and_intros)<;>first|exact .dq|omega|skip
  refine aa.pure c5 ?_
  by_cases q:qe=0
  case neg =>
   have d:(qe==0)=false:=by simpa using q
   rw [if_neg q] at hR;rw [hR];simp only [go_sem,seval,bne,d]<;>simp
  rw [if_pos q] at hR;have cC:=cC q;rw [q];simp only [go_sem,seval];(with_reducible and_intros)<;>first|exact .dq|omega|skip
  have q2:¬ n < 0:=by omega
  have d2:decide (n < 0)=false:=by simpa using q2
  rw [if_neg q2] at hR;simp only [go_sem,seval,d2];(with_reducible and_intros)<;>first|exact .dq|omega|skip
  refine aa.pure cV ?_
  by_cases q3:ve=0
  case neg =>
   have d:(ve==0)=false:=by simpa using q3
   rw [if_neg q3] at hR;rw [hR];simp only [go_sem,seval,d]<;>simp
  rw [if_pos q3] at hR;rw [hR,q3];simp only [go_sem,seval];(with_reducible and_intros)<;>first|exact .dq|omega|skip
  refine aa.pure cM ?_;simp only [go_sem,seval];(with_reducible and_intros)<;>first|exact .dq|omega|skip
def jw (c:aZ):aI:=⟨0,c.who,c.other,c.inst,c.aV,c.aR,false⟩
def iK (s:af) (c:aZ):af × Int × Int:=
 if c.kind=10 then
  (if vD s.aj (jw c)=0 then ({ s with book:=gL s.book (jw c) },pQ s.book (jw c),fJ s.book (jw c)) else (s,0,vD s.aj (jw c)))
 else if c.kind=13 then ({ s with aj:=uZ s.aj c.inst c.aR },0,uA s.aj c.inst c.aR)
 else if gn c.no s.book.ts < 0 then (s,0,10)
 else if Dl s.aj (ck c.no s.book.ts).fW=0/\Dl s.aj (ck c.no s.book.ts).dV=0 then
  (if c.kind=11 then ({ s with book:=dI s.book c.no },0,eg s.book c.no)
  else ({ s with book:=om s.book c.no c.aV c.aR },Bn s.book c.no c.aV c.aR,qG s.book c.no c.aV c.aR))
 else (s,0,14)
theorem jc (s:af) (c:aZ) (h:s.good):Abs.Spec Tryz.prog 61 [.box s.cells] [.addr 0 0,.agg c.cells] [.box (iK s c).1.cells] (.bI [.int .i64 (iK s c).2.1,.int .i64 (iK s c).2.2]):=by
 have c1:=Eh s.aj (jw c) h.small.aj;have c2:=uP s.book (jw c) h.small.book h.cE.qs;have c3:=F9 s.aj c.inst c.aR h.small.aj;have c4:=qL s.book c.no h.small.book;have c5:=fun w=>qa s w h.small.aj.small
 have c6:=sJ s.book c.no h.small.book h.cE.qs;have c7:=zP s.book c.no c.aV c.aR h.small.book h.cE.qs;have hfe:¬ gn c.no s.book.ts < 0->_:=fun hh=>tg (n:=c.no) (ts:=s.book.ts) hh
 obtain ⟨R,hR⟩:=aL (iK s c);rw [<- hR];simp only [iK] at hR;obtain ⟨te,hte⟩:∃ e,e=vD s.aj (jw c):=⟨_,rfl⟩
 obtain ⟨eB,hB⟩:∃ e,e=gL s.book (jw c):=⟨_,rfl⟩
 obtain ⟨eN,hN⟩:∃ e,e=pQ s.book (jw c):=⟨_,rfl⟩
 obtain ⟨eE,hE⟩:∃ e,e=fJ s.book (jw c):=⟨_,rfl⟩
 rw [<- hte] at c1 hR;rw [<- hB,<- hN,<- hE] at c2 hR;simp only [jw,aI.cells] at c1 c2;simp only [au.cells] at c1 c3;simp only [aF.cells] at c2 c4 c6 c7;simp only [af.cells] at c5 |-;simp only [aZ.cells];refine bg 142 2 [.tmp 4,.tmp 5] mixed Tryz.func61 ?_;simp only [go_sem,seval];(with_reducible and_intros)<;>first|exact .dq|omega|skip
 by_cases k10:c.kind=10
 ·have dk:(c.kind==10)=true:=by simpa using k10
  rw [if_pos k10] at hR;simp only [go_sem,seval,dk];(with_reducible and_intros)<;>first|exact .dq|omega|skip
  refine aa.pure c1 ?_
  by_cases q:te=0
  ·have d:(te==0)=true:=by simpa using q
   rw [if_pos q] at hR;rw [hR];simp only [go_sem,seval,d];(with_reducible and_intros)<;>first|exact .dq|omega|skip
   refine aa.pure c2 ?_;simp only [go_sem,seval];(with_reducible and_intros)<;>first|exact .dq|omega|skip
  ·have d:(te==0)=false:=by simpa using q
   rw [if_neg q] at hR;rw [hR];simp only [go_sem,seval,d]
 have dk:(c.kind==10)=false:=by simpa using k10
 rw [if_neg k10] at hR;clear c1 c2;simp only [go_sem,seval,dk];(with_reducible and_intros)<;>first|exact .dq|omega|skip
 by_cases k13:c.kind=13
 ·have dk3:(c.kind==13)=true:=by simpa using k13
  rw [if_pos k13] at hR;rw [hR];simp only [go_sem,seval,dk3];(with_reducible and_intros)<;>first|exact .dq|omega|skip
  refine aa.pure c3 ?_;simp only [go_sem,seval];(with_reducible and_intros)<;>first|exact .dq|omega|skip
 have dk3:(c.kind==13)=false:=by simpa using k13
 rw [if_neg k13] at hR;clear c3;simp only [go_sem,seval,dk3];(with_reducible and_intros)<;>first|exact .dq|omega|skip
 refine aa.pure c4 ?_
 by_cases q:gn c.no s.book.ts < 0
 ·have d:decide (gn c.no s.book.ts < 0)=true:=by simpa using q
  rw [if_pos q] at hR;rw [hR];simp only [go_sem,seval,d]
 have d:decide (gn c.no s.book.ts < 0)=false:=by simpa using q
 rw [if_neg q] at hR;obtain ⟨i,hi,hie,_⟩:=hfe q;have hat:ck c.no s.book.ts=s.book.ts[i]:=by simp [ck,hie,hi]
 rw [hat] at hR;have hm:=aD (c:=aI.cells) s.book.ts hi;have hli:(i:Int) < (s.book.ts.length:Int):=by omega
 obtain ⟨x,hx⟩:=aL (s.book.ts[i]);rw [<- hx] at hR hm;have c5b:=c5 x.fW;have c5s:=c5 x.dV;obtain ⟨be,hbe⟩:∃ e,e=Dl s.aj x.fW:=⟨_,rfl⟩
 obtain ⟨se,hse⟩:∃ e,e=Dl s.aj x.dV:=⟨_,rfl⟩
 rw [<- hbe] at c5b hR;rw [<- hse] at c5s hR;rw [hie] at d |-;simp only [aI.cells] at hm;clear hfe c4 q c5 hbe hse hat hx;simp only [go_sem,seval,d,aG,hm,Int.toNat_natCast];(with_reducible and_intros)<;>first|exact .dq|omega|skip
 refine aa.pure c5b ?_
 by_cases q1:be=0
 case neg =>
  have d1:(be==0)=false:=by simpa using q1
  rw [if_neg (fun h=>q1 h.1)] at hR;rw [hR];simp only [go_sem,seval,bne,d1]<;>simp
 rw [q1];simp only [go_sem,seval,aG,hm,Int.toNat_natCast];(with_reducible and_intros)<;>first|exact .dq|omega|skip
 refine aa.pure c5s ?_
 by_cases q2:se=0
 case neg =>
  have d2:(se==0)=false:=by simpa using q2
  rw [if_neg (fun h=>q2 h.2)] at hR;rw [hR];simp only [go_sem,seval,bne,d2]<;>simp
 rw [if_pos ⟨q1,q2⟩] at hR;rw [q2];clear c5b c5s;simp only [go_sem,seval];(with_reducible and_intros)<;>first|exact .dq|omega|skip
 by_cases k11:c.kind=11
 ·have dk1:(c.kind==11)=true:=by simpa using k11
  rw [if_pos k11] at hR;rw [hR];simp only [go_sem,seval,dk1];(with_reducible and_intros)<;>first|exact .dq|omega|skip
  refine aa.pure c6 ?_;simp only [go_sem,seval];(with_reducible and_intros)<;>first|exact .dq|omega|skip
 ·have dk1:(c.kind==11)=false:=by simpa using k11
  rw [if_neg k11] at hR;rw [hR];simp only [go_sem,seval,dk1];(with_reducible and_intros)<;>first|exact .dq|omega|skip
  refine aa.pure c7 ?_;simp only [go_sem,seval];(with_reducible and_intros)<;>first|exact .dq|omega|skip
def ux (s:af) (c:Int):af × Int:=if iZ s.aU s.aj c=0/\fk s.aU s.aj c≠[] then (kF s (fk s.aU s.aj c),sj s (fk s.aU s.aj c)) else (s,iZ s.aU s.aj c)
def j6:Nat->Nat->af->List aN->af × List aN × Int
 | 0,_,s,ds=>(s,ds,0)
 | m+1,c,s,ds=>if (ux s c).2=0 then j6 m (c+1) (ux s c).1 (ds++iC s.aU s.aj c) else ((ux s c).1,[],(ux s c).2)
theorem Om {s:af} (h:s.good) (c:Int):(ux s c).1.good:=by
 unfold ux;split
 ·exact Fb h _
 ·exact h
theorem zf (l:bq) (r:au) (c:Int):(iC l r c).length<=r.ms.length:=by
 unfold iC;split
 ·have:=fm (f:=sM l c) (m:=1) (fun m=>by unfold sM;split<;>simp) r.ms;simpa using this
 ·simp
theorem Im (l:bq) (r:au) (c:Int):(fk l r c).length<=306:=by
 unfold fk;split
 ·exact uh _
 ·simp
theorem Am (s:af) (h:s.good):Abs.Spec Tryz.prog 68 [.box s.cells] [.addr 0 0] [.box (j6 3 0 s []).1.cells,.own 3 ((j6 3 0 s []).2.1.map aN.cells)] (.bI [.ref 1,.int .i64 (j6 3 0 s []).2.2]):=by
 obtain ⟨R,hR⟩:=aL (j6 3 0 s []);rw [<- hR];simp only [af.cells];refine bg 44 1 [.tmp 2,.tmp 3] mixed Tryz.func68 ?_;simp only [go_sem,seval];(with_reducible and_intros)<;>first|exact .dq|omega|skip
 refine aC.walk (S:=af × List aN) 3 [0] [] (fun i _=>[(5,.int .i64 i),(4,.ref 688)]) (fun i x=>[(0,.box x.1.cells),(688,.own 3 (x.2.map aN.cells))])
  (fun i x=>j6 (3-i) i x.1 x.2=R/\x.1.good/\x.2.length<=i*134217728) (s,[]) ⟨hR.symm,h,Nat.zero_le _⟩ ?_ ?_ ?_
 ·simp only [go_sem,seval]<;>simp
 ·intro c x hc hdc hwc hI;obtain ⟨t,ds⟩:=x;obtain ⟨hI,hg,hdl⟩:=hI;dsimp only at hI hg hdl |-;have hdc:decide ((c:Int) < 3)=true:=hdc;obtain ⟨m,hm⟩:∃ m,3-c=m+1:=⟨3-c-1,by omega⟩
  have hm2:3-(c+1)=m:=by omega
  rw [hm] at hI;simp only [j6] at hI;have c1:=Du t.aU t.aj c hg.small.aU hg.cE.bs hg.small.aj hg.ms;have hll:=Im t.aU t.aj c;have hdd:=zf t.aU t.aj c;have hms:=hg.ms;have c2:=iR t (fk t.aU t.aj c) hg.small.aU hg.cE.bs (by omega);have hpg:=Om hg c;obtain ⟨P,hP⟩:=aL (ux t c);rw [<- hP] at hI hpg;simp only [ux] at hP;obtain ⟨g,hgd⟩:=aL (fk t.aU t.aj c);obtain ⟨D1,hD1⟩:∃ g,g=iC t.aU t.aj c:=⟨_,rfl⟩
  obtain ⟨re,hre⟩:∃ g,g=iZ t.aU t.aj c:=⟨_,rfl⟩
  rw [<- hgd] at c1 c2 hP hll;rw [<- hD1] at c1 hI hdd;rw [<- hre] at c1 hP;obtain ⟨PS,hPS⟩:∃ p,p=kF t g:=⟨_,rfl⟩
  obtain ⟨PE,hPE⟩:∃ p,p=sj t g:=⟨_,rfl⟩
  rw [<- hPS,<- hPE] at c2 hP;clear hgd hD1 hre hPS hPE;simp only [bq.cells,au.cells] at c1;simp only [af.cells] at c2 |-;simp only [go_sem,seval,hdc];(with_reducible and_intros)<;>first|exact .dq|omega|skip
  refine aa.pure c1 ?_
  by_cases q1:re=0
  case neg =>
   have d:(re==0)=false:=by simpa using q1
   rw [if_neg (fun h=>q1 h.1)] at hP;rw [hP] at hI;dsimp only at hI;rw [if_neg q1] at hI;rw [<- hI];simp only [go_sem,seval,bne,d]
   all_goals simp
  rw [q1] at hP |-
  by_cases q2:g=[]
  ·rw [if_neg (fun h=>h.2 q2)] at hP;rw [hP] at hI hpg;dsimp only at hI hpg;rw [if_pos rfl] at hI;rw [q2];simp only [go_sem,seval,List.map_nil,List.length_nil,aG,hwc];(with_reducible and_intros)<;>first|exact .dq|omega|skip
   refine ah.step (t,ds++D1) hc ⟨by rw [hm2];exact hI,hpg,by simp;omega⟩ ?_;simp only [go_sem,seval]<;>simp
  have hgp:decide ((0:Int) < (g.length:Int))=true:=by
   have:g.length≠0:=fun h=>q2 (List.eq_nil_of_length_eq_zero h)
   simp;omega
  rw [if_pos ⟨rfl,q2⟩] at hP;rw [hP] at hI hpg;dsimp only at hI hpg;simp only [go_sem,seval,aG,hgp];(with_reducible and_intros)<;>first|exact .dq|omega|skip
  refine aa.gen [] [0] false (by simp) ?_;simp only [go_sem,seval];refine aY.intro c2 ?_;simp only [go_sem,seval];(with_reducible and_intros)<;>first|exact .dq|omega|skip
  by_cases q3:PE=0
  ·have d:(PE==0)=true:=by simpa using q3
   rw [if_pos q3] at hI;simp only [go_sem,seval,bne,d,aG,hwc];(with_reducible and_intros)<;>first|exact .dq|omega|skip
   refine ah.step (PS,ds++D1) hc ⟨by rw [hm2];exact hI,hpg,by simp;omega⟩ ?_;simp only [go_sem,seval]<;>simp
  ·have d:(PE==0)=false:=by simpa using q3
   rw [if_neg q3] at hI;rw [<- hI];simp only [go_sem,seval,bne,d]
   all_goals simp
 intro x _ hI;obtain ⟨t,ds⟩:=x;have hI:=hI.1;have hI:(t,ds,(0:Int))=R:=hI;subst hI;simp only [af.cells];simp only [go_sem,seval]
theorem Spec.M0 {P:Program} {f:FuncId} {hs ds hs':List D} {d:D} (h:Abs.Spec P f hs ds hs' d) (k:Nat) (hk:hs.length<=k) {hs2:List D} {d2:D} (hn:hs'.getD k .undef≠.undef) (hd:(x9 k (sq [(0,d)] (qI 0 hs'))).t 0=d2)
  (ho:∀ r,(x9 k (sq [(0,d)] (qI 0 hs'))).o r=hs2.getD r .undef) (hu:∀ i,i < hs.length->hs'.getD i .undef=.undef->hs2.getD i .undef=.undef):Abs.Spec P f hs ds hs2 d2:=by
 refine ⟨h.1,?_⟩;intro w l0 G0 own0 S0 vs hT hl0 hG hsz hr hobj;refine (h.2 w l0 G0 own0 S0 vs hT hl0 hG hsz hr hobj).mono ?_
 rintro e w' ⟨v,rfl,o⟩
 refine ⟨v,rfl,o.os,o.tape,o.output,o.size,o.old,o.part,?_⟩;obtain ⟨lev,own,S,h1,h2,h3,h4,h5⟩:=o.rep
 have hi:Inv w l0 G0 S w' lev own S (sq [(0,d)] (qI 0 hs')) (fun j=>if j=0 then v else Go.undef):=by
  refine ⟨⟨o.os,hT⟩,o.tape,o.output,o.size,o.old,o.part,h1,h2,fun _ _ _=>rfl,?_,?_⟩
  ·intro s
   show aE _ _ (Abs.look [(0,d)] s)
   by_cases hs:s=0
   ·subst hs;simpa [Abs.look] using h3
   ·simp only [Abs.look,if_neg hs];exact .undef _
  ·intro r
   show jO _ _ _ _ _ _ r (Abs.look (qI 0 hs') r)
   rw [n7];simpa using h4 r
 have hi':=(Inv.frz hi k).resolve_right (fun hq=>hn (by
  have hq:Abs.look (qI 0 hs') k=.undef:=hq;rw [n7] at hq
  simpa using hq))
 refine ⟨_,own,iV S k none,hi'.priv,hi'.iq,?_,?_,?_⟩
 ·have:=hi'.lp 0;rw [hd] at this;simpa using this
 ·intro r;have:=hi'.objs r
  rwa [ho] at this
 ·intro i hm hne;have:i≠k:=by omega
  simp only [iV,this,if_false];exact h5 i hm fun hh=>hne (hu i hm hh)
def p7 (s:af) (c:aZ):af × Int:=
 if within c.aV 1 1048576&&within c.aR 1 1073741824 then
  (if eJ s.aj c.who&&(eJ s.aj c.other&&bf s.aj c.inst) then
   (if c.who=c.other then (s,16)
   else if (fc s.aj c.who).state=2/\(fc s.aj c.other).state=1 then
    (if 32<=s.aX.length then (s,9) else ({ s with aX:=s.aX++[⟨c.who,c.inst,c.other,c.aV,c.aR⟩] },0))
   else (s,14))
  else (s,10))
 else (s,3)
@[reducible] def af.vk (s:af) (r:Nat):List D:=[.int .i64 s.now,.int .i64 s.day,.int .i64 s.phase,.sl 3 (s.aj.ms.map ak.cells),.sl 12 (s.aj.ns.map aq.cells),.sl 4 (s.aj.xs.map av.cells),.int .i64 s.book.next,.sl 7 (s.book.ts.map aI.cells),.sl 4 (s.book.qs.map aA.cells),
 .int .i64 s.aU.last,.sl 4 (s.aU.bs.map bp.cells),.sl 3 (pl s.ps),.sl 4 (s.calls.map aB.cells),.ref r,.sl 7 (s.aJ.map bE.cells)]
theorem Gy (s:af) (c:aZ) (h:s.good):Abs.Spec Tryz.prog 66 [.box (s.vk 1),.own 5 (s.aX.map bu.cells)] [.addr 0 0,.agg c.cells] [.box ((p7 s c).1.vk 2),.undef,.own 5 ((p7 s c).1.aX.map bu.cells)] (.int .i64 (p7 s c).2):=by
 have c1:=ga c.aV 1 1048576;have c2:=ga c.aR 1 1073741824;have c3:=cj s.aj c.who h.small.aj.small;have c4:=cj s.aj c.other h.small.aj.small;have c5:=dc s.aj c.inst h.small.aj.small;have hbl:=h.aX;obtain ⟨R,hR⟩:=aL (p7 s c);rw [<- hR];simp only [p7] at hR;obtain ⟨m,hm⟩:=aL (fc s.aj c.who);obtain ⟨m2,hm2⟩:∃ m,m=fc s.aj c.other:=⟨_,rfl⟩
 obtain ⟨mi,hmi⟩:∃ m,m=eJ s.aj c.who:=⟨_,rfl⟩
 obtain ⟨mi2,hmi2⟩:∃ m,m=eJ s.aj c.other:=⟨_,rfl⟩
 obtain ⟨ii,hii⟩:∃ m,m=bf s.aj c.inst:=⟨_,rfl⟩
 obtain ⟨y,hy⟩:∃ m,m=aT s.aj c.inst:=⟨_,rfl⟩
 rw [<- hm,<- hmi] at c3;rw [<- hm2,<- hmi2] at c4;rw [<- hii,<- hy] at c5;rw [<- hm,<- hm2,<- hmi,<- hmi2,<- hii] at hR;clear hm hm2 hmi hmi2 hii hy;simp only [au.cells] at c3 c4 c5;simp only [af.vk];simp only [aZ.cells];refine bg 101 2 [.tmp 4] mixed Tryz.func66 ?_;simp only [go_sem,seval];(with_reducible and_intros)<;>first|exact .dq|omega|skip
 refine aa.pure c1 ?_;cases b1:within c.aV 1 1048576
 ·rw [b1] at hR;have hR:R=(s,3):=hR;rw [hR];simp only [go_sem,seval]<;>simp
 rw [b1,Bool.true_and] at hR;simp only [go_sem,seval];(with_reducible and_intros)<;>first|exact .dq|omega|skip
 refine aa.pure c2 ?_;cases b2:within c.aR 1 1073741824
 ·rw [b2] at hR;have hR:R=(s,3):=hR;rw [hR];simp only [go_sem,seval]<;>simp
 rw [b2,if_pos rfl] at hR;simp only [go_sem,seval];(with_reducible and_intros)<;>first|exact .dq|omega|skip
 refine aa.pure c3 ?_;simp only [go_sem,seval];(with_reducible and_intros)<;>first|exact .dq|omega|skip
 refine aa.pure c4 ?_;simp only [go_sem,seval];(with_reducible and_intros)<;>first|exact .dq|omega|skip
 refine aa.pure c5 ?_;clear c1 c2 c3 c4 c5;cases b3:mi
 ·rw [b3] at hR;have hR:R=(s,10):=hR;rw [hR];simp only [go_sem,seval];(with_reducible and_intros)<;>first|exact .dq|omega|skip
 rw [b3,Bool.true_and] at hR;cases b4:mi2
 ·rw [b4] at hR;have hR:R=(s,10):=hR;rw [hR];simp only [go_sem,seval];(with_reducible and_intros)<;>first|exact .dq|omega|skip
 rw [b4,Bool.true_and] at hR;cases b5:ii
 ·rw [b5] at hR;have hR:R=(s,10):=hR;rw [hR];simp only [go_sem,seval];(with_reducible and_intros)<;>first|exact .dq|omega|skip
 rw [b5,if_pos rfl] at hR;simp only [go_sem,seval];(with_reducible and_intros)<;>first|exact .dq|omega|skip
 by_cases k1:c.who=c.other
 ·have d:(c.who==c.other)=true:=by simpa using k1
  rw [if_pos k1] at hR;rw [hR];simp only [go_sem,seval,d]<;>simp
 have d1:(c.who==c.other)=false:=by simpa using k1
 rw [if_neg k1] at hR;simp only [go_sem,seval,d1];(with_reducible and_intros)<;>first|exact .dq|omega|skip
 by_cases k2:m.state=2
 case neg =>
  have d:(m.state==2)=false:=by simpa using k2
  rw [if_neg (fun h=>k2 h.1)] at hR;rw [hR];simp only [go_sem,seval,bne,d]<;>simp
 have d2:(m.state==2)=true:=by simpa using k2
 simp only [go_sem,seval,bne,d2];(with_reducible and_intros)<;>first|exact .dq|omega|skip
 by_cases k3:m2.state=1
 case neg =>
  have d:(m2.state==1)=false:=by simpa using k3
  rw [if_neg (fun h=>k3 h.2)] at hR;rw [hR];simp only [go_sem,seval,d]<;>simp
 have d3:(m2.state==1)=true:=by simpa using k3
 rw [if_pos ⟨k2,k3⟩] at hR;simp only [go_sem,seval,d3,aG];(with_reducible and_intros)<;>first|exact .dq|omega|skip
 by_cases k4:32<=s.aX.length
 ·have d4:decide ((32:Int)<=(s.aX.length:Int))=true:=by simp;omega
  rw [if_pos k4] at hR;rw [hR];simp only [go_sem,seval,d4]<;>simp
 have d4:decide ((32:Int)<=(s.aX.length:Int))=false:=by simp;omega
 rw [if_neg k4] at hR;rw [hR];simp only [go_sem,seval,d4,aG];(with_reducible and_intros)<;>first|exact .dq|omega|skip
 all_goals simp
theorem DL (s:af) (c:aZ) (h:s.good):Abs.Spec Tryz.prog 66 [.box (s.vk 1),.own 5 (s.aX.map bu.cells)] [.addr 0 0,.agg c.cells] [.box (p7 s c).1.cells,.undef] (.int .i64 (p7 s c).2):=by
 refine Spec.M0 (Gy s c h) 2 (Nat.le_refl _) (by simp) rfl ?_ ?_
 ·intro r;rcases r with _ | _ | _ | r<;>rfl
 ·intro i hi hu;rcases i with _ | _ | i
  ·simp at hu
  ·rfl
  ·simp at hi;omega
theorem yx (s:af) (h:s.good):Abs.Spec Tryz.prog 68 [.box s.cells] [.addr 0 0] [.box (j6 3 0 s []).1.cells] (.bI [.sl 3 ((j6 3 0 s []).2.1.map aN.cells),.int .i64 (j6 3 0 s []).2.2]):=by
 refine Spec.M0 (Am s h) 1 (Nat.le_refl _) (by simp) rfl ?_ ?_
 ·intro r;rcases r with _ | _ | r<;>rfl
 ·intro i hi hu;rcases i with _ | i
  ·simp at hu
  ·simp at hi
theorem aa' (n0 n1 n2 n3 n4:Int) (r0 r1 r2 r3 r4 r5 r6 r7 r8 r9:List (List D)):(dN [0,1,2,3,4,5,6,7,9] (sq [(0,.agg [.int .i64 n0,.int .i64 n1,.int .i64 n2,.ref 0,.ref 1,.ref 2,.int .i64 n3,.ref 3,.ref 4,.int .i64 n4,.ref 5,.ref 6,.ref 7,.ref 8,.ref 9])] (qI 0 [.own 3 r0,.own 12 r1,.own 4 r2,.own 7 r3,.own 4 r4,.own 4 r5,.own 3 r6,.own 4 r7,.own 5 r8,.own 7 r9]))).t 0=.agg [.int .i64 n0,.int .i64 n1,.int .i64 n2,.sl 3 r0,.sl 12 r1,.sl 4 r2,.int .i64 n3,.sl 7 r3,.sl 4 r4,.int .i64 n4,.sl 4 r5,.sl 3 r6,.sl 4 r7,.ref 8,.sl 7 r9]:=by
 kernel_rfl
theorem Wa (d:D) (r0 r1 r2 r3 r4 r5 r6 r7 r8 r9:List (List D)) (r:Nat):(dN [0,1,2,3,4,5,6,7,9] (sq [(0,d)] (qI 0 [.own 3 r0,.own 12 r1,.own 4 r2,.own 7 r3,.own 4 r4,.own 4 r5,.own 3 r6,.own 4 r7,.own 5 r8,.own 7 r9]))).o r=[D.undef,.undef,.undef,.undef,.undef,.undef,.undef,.undef,.own 5 r8].getD r .undef:=by
 rcases r with _ | _ | _ | _ | _ | _ | _ | _ | _ | _ | r<;>kernel_rfl
theorem Jm (s:af) (hs:s.small):Abs.Spec Tryz.prog 5 [] [.agg s.cells] [.undef,.undef,.undef,.undef,.undef,.undef,.undef,.undef,.own 5 (s.aX.map bu.cells)] (.agg (s.vk 8)):=by
 have h:=kj s hs;simp only [Ep,yg] at h;simp only [af.vk];simp only [af.cells] at h |-;exact Spec.frozen h [0,1,2,3,4,5,6,7,9] (aa' ..) (fun r=>Wa ..)
end Go.Proofs.YtnkobepdbkmedaaGreat
