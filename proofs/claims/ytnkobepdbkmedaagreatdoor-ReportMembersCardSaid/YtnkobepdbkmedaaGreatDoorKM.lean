/- What is told of a member, and what follows. No theorem of a claim. -/
import Derived.Test.YtnkobepdbkmedaaGreatDoorKW
import Derived.Test.YtnkobepdbkmedaaGreatDoorKG
import Derived.Test.YtnkobepdbkmedaaGreatDoorKL
set_option linter.unusedSimpArgs false
set_option linter.unusedVariables false
set_option maxHeartbeats 4000000
set_option maxRecDepth 16000
namespace Go.Proofs.YtnkobepdbkmedaaGreatDoor
open Go.Abs
open Go.Lib (itoa)
abbrev KF:List UInt8:=[109,101,109,98,101,114]
abbrev LR:List UInt8:=[99,97,115,104]
abbrev M1:List UInt8:=[102,117,110,100]
abbrev Y0:List UInt8:=[112,111,115,105,116,105,111,110]
abbrev Km:List UInt8:=[112,108,101,100,103,101]
abbrev Uz:List UInt8:=[99,97,108,108]
def xG (s:af) (w c:Int):List UInt8:=LR++dP [c,fj ⟨2,w,c⟩ s.aW.bs]++[32]++(M1++dP [c,fj ⟨3,w,c⟩ s.aW.bs])
def sW (s:af) (w:Int) (n:Nat):List (List UInt8):=(List.range n).map fun (c:Nat)=>xG s w c
theorem O0 (s:af) (w:Int) (n:Nat):sW s w (n+1)=sW s w n++[xG s w n]:=by simp [sW,List.range_succ]
def ny {A:Type} (who:A->Int) (f:A->List UInt8) (w:Int) (l:List A):List (List UInt8):=(l.filter fun x=>who x==w).map f
theorem BF {A:Type} {who:A->Int} {f:A->List UInt8} {w:Int} {l:List A} {i:Nat} (hi:i < l.length):ny who f w (l.take (i+1))=if (who l[i]==w)=true then ny who f w (l.take i)++[f l[i]] else ny who f w (l.take i):=by
 rw [List.take_succ_eq_append_getElem hi,ny,List.filter_append,List.map_append];cases h:(who l[i]==w)<;>simp [ny,h]
theorem uS {A:Type} {who:A->Int} {f:A->List UInt8} {w:Int} (l:List A):(ny who f w l).length<=l.length:=by
 rw [ny,aJ];exact List.length_filter_le ..
def EF (p:aB):List UInt8:=Y0++dP [p.inst,p.bg,p.cost]
def Gw (p:dS):List UInt8:=Km++dP [p.bG,p.units]
def Aj (c:aA):List UInt8:=Uz++dP [c.cur,c.cm,c.till]
def LK (s:af) (w:Int):List UInt8:=KF++dP [w,(ew s.aj w).state,(ew s.aj w).need]
def rN (s:af) (w:Int):List (List UInt8):=LK s w :: sW s w 3++ny aB.who EF w s.book.qs++ny dS.who Gw w s.ps++ny aA.who Aj w s.calls
theorem Uf {a b c:Int} (ha:dj a) (hb:dj b) (hc:dj c):∀ n∈[a,b,c],dj n:=by
 intro n hn;simp only [List.mem_cons,List.not_mem_nil,or_false] at hn;rcases hn with rfl | rfl | rfl<;>assumption
theorem En {a b:Int} (ha:dj a) (hb:dj b):∀ n∈[a,b],dj n:=by
 intro n hn;simp only [List.mem_cons,List.not_mem_nil,or_false] at hn;rcases hn with rfl | rfl<;>assumption
theorem Rn (s:af) (w c:Int) (hc:dj c) (h:∀ x∈s.aW.bs,x.cU):(xG s w c).length<=200:=by
 have h1:=lZ [c,fj ⟨2,w,c⟩ s.aW.bs] (En hc (pJ h));have h2:=lZ [c,fj ⟨3,w,c⟩ s.aW.bs] (En hc (pJ h));simp only [xG,List.length_append,List.length_cons,List.length_nil] at h1 h2 |-;omega
theorem Hz (s:af) (w:Int) (hr:s.cU) (hsm:s.small) (hw:dj w):Abs.Spec Tryz.prog 8 [] [.agg s.cells,.int .i64 w] [.own 1 (bU (if dQ s.aj w then rN s w else []))] (.bI [.ref 0,.int .i64 (if dQ s.aj w then 0 else 10)]):=by
 have hM:=td s.aj w hsm.aj.small;have hm:=Jg hr.ms w;obtain ⟨m,hmd⟩:=aH (ew s.aj w);obtain ⟨L,hL⟩:=aH (rN s w);have hL2:=hL;simp only [rN,LK] at hL2;rw [<- hmd] at hM hm hL2;rw [<- hL];clear hmd hL;have hh:=kP KF [w,m.state,m.need] (by decide) (by simp) (Uf hw hm.2.1 hm.2.2);obtain ⟨H,hH⟩:=aH (KF++dP [w,m.state,m.need]);rw [<- hH] at hL2 hh;simp only [ints,List.map_cons,List.map_nil] at hh;simp only [af.cells];simp only [aq.cells,ak.cells] at hM;refine bu 138 2 [.tmp 4,.tmp 5] mixed Tryz.func8 ?_;simp only [go_sem,seval];(with_reducible and_intros)<;>first|exact .dq|omega|skip
 refine aa.pure hM ?_;cases hi:dQ s.aj w
 ·simp only [go_sem,seval,hi]
  all_goals simp [bU]
 rw [if_pos rfl,if_pos rfl];simp only [go_sem,seval,hi];(with_reducible and_intros)<;>first|exact .dq|omega|skip
 refine aa.gen [] [] true (by simp) ?_;simp only [go_sem,seval,mL];refine aU.intro hh ?_;simp only [go_sem,seval];(with_reducible and_intros)<;>first|exact .dq|omega|skip
 clear hM hm hh hH hi;have hlb:=hsm.aW;have hlq:=hsm.book.2;have hlp:=hsm.ps;have hlc:=hsm.calls;refine aC.walk (S:=Unit) 3 [1,2] [48] (fun i _=>[(35,.int .i64 i),(8,.ref 1008)]) (fun i _=>[(1008,.own 1 (bU (H :: sW s w i)))]) (fun _ _=>True) () trivial ?_ ?_ ?_
 ·simp only [go_sem,seval]<;>simp [bU,sW]
 ·intro i _ hi _ hwi _;have hdi:decide ((i:Int) < 3)=true:=decide_eq_true (by omega);have hc:dj (i:Int):=⟨by omega,by omega⟩
  have h2:=yY s.aW ⟨2,w,i⟩ (by omega);have h3:=yY s.aW ⟨3,w,i⟩ (by omega);have r2:dj (fj ⟨2,w,i⟩ s.aW.bs):=pJ hr.bs;have r3:dj (fj ⟨3,w,i⟩ s.aW.bs):=pJ hr.bs;have hst:=O0 s w i;simp only [xG] at hst;obtain ⟨x,hx⟩:=aH (fj ⟨2,w,i⟩ s.aW.bs);obtain ⟨y,hy⟩:=aH (fj ⟨3,w,i⟩ s.aW.bs);rw [<- hx] at h2 r2 hst;rw [<- hy] at h3 r3 hst;have p2:=kP LR [(i:Int),x] (by decide) (by simp) (En hc r2);have p3:=kP M1 [(i:Int),y] (by decide) (by simp) (En hc r3);have l2:=lZ [(i:Int),x] (En hc r2);have l3:=lZ [(i:Int),y] (En hc r3);have ln:(sW s w i).length=i:=by simp [sW]
  obtain ⟨C,hC⟩:=aH (sW s w i);rw [<- hC] at hst ln |-;obtain ⟨T2,hT2⟩:=aH (LR++dP [(i:Int),x]);obtain ⟨T3,hT3⟩:=aH (M1++dP [(i:Int),y]);have m2:T2.length<=60:=by rw [hT2,List.length_append];simp only [List.length_cons,List.length_nil] at l2 |-;omega
  have m3:T3.length<=60:=by rw [hT3,List.length_append];simp only [List.length_cons,List.length_nil] at l3 |-;omega
  rw [<- hT2] at p2 hst;rw [<- hT3] at p3 hst;have hst2:bU (H :: C)++[[.str (B (T2++[32]++T3))]]=bU (H :: sW s w (i+1)):=by rw [hst,<- jC];rfl
  simp only [ints,List.map_cons,List.map_nil] at p2 p3;simp only [bz.cells,aD.cells] at h2 h3;clear hT2 hT3 hst hx hy hC r2 r3 hL2 l2 l3;simp only [go_sem,seval,hdi];(with_reducible and_intros)<;>first|exact .dq|omega|skip
  refine aa.pure h2 ?_;simp only [go_sem,seval];(with_reducible and_intros)<;>first|exact .dq|omega|skip
  refine aa.pure h3 ?_;simp only [go_sem,seval];(with_reducible and_intros)<;>first|exact .dq|omega|skip
  refine aa.gen [] [] true (by simp) ?_;simp only [go_sem,seval,mL];refine aU.intro p2 ?_;simp only [go_sem,seval,mL,zz,eZ,List.length_append,List.length_cons,List.length_nil];(with_reducible and_intros)<;>first|exact .dq|omega|skip
  refine aa.gen [] [] true (by simp) ?_;simp only [go_sem,seval,mL];refine aU.intro p3 ?_;simp only [go_sem,seval,mL,zz,eZ,List.length_append,List.length_cons,List.length_nil,hwi];(with_reducible and_intros)<;>first|exact .dq|omega|skip
  refine ah.step () hi trivial ?_;simp only [go_sem,seval,hst2]
 intro _ _ _;have hdx:decide (((3:Nat):Int) < 3)=false:=by decide
 simp only [go_sem,seval,hdx];(with_reducible and_intros)<;>first|exact .dq|omega|skip
 obtain ⟨C,hC⟩:=aH (H :: sW s w 3);have hcl:C.length=4:=by rw [hC];rfl
 rw [<- hC] at hL2 |-;clear hC;refine aC.walk (S:=Unit) s.book.qs.length [1,2,66,67] [48,1088] (fun i _=>[(68,.int .i64 i),(8,.ref 1424)]) (fun i _=>[(1424,.own 1 (bU (C++ny aB.who EF w (s.book.qs.take i))))]) (fun _ _=>True) () trivial ?_ ?_ ?_
 ·simp only [go_sem,seval]<;>simp [bU,ny]
 ·intro i _ hi hdi hwi _;have hm:=aG (c:=aB.cells) s.book.qs hi;have hli:(i:Int) < (s.book.qs.length:Int):=by omega
  have hx:=hr.qs _ (List.getElem_mem hi);have hst:=BF (who:=aB.who) (f:=EF) (w:=w) hi;have hol:=uS (who:=aB.who) (f:=EF) (w:=w) (s.book.qs.take i);rw [List.length_take] at hol;obtain ⟨x,hxd⟩:=aH (s.book.qs[i]);rw [<- hxd] at hm hx hst;obtain ⟨O,hO⟩:=aH (ny aB.who EF w (s.book.qs.take i));rw [<- hO] at hst hol |-;have hco:(C++O).length<=8589934592:=by rw [List.length_append];omega
  clear hO hxd hL2;simp only [aB.cells] at hm;simp only [go_sem,seval,aJ,hdi,hm];(with_reducible and_intros)<;>first|exact .dq|omega|skip
  cases q:aB.who x==w
  ·rw [if_neg (by rw [q];decide)] at hst;simp only [go_sem,seval,q,hwi];(with_reducible and_intros)<;>first|exact .dq|omega|skip
   refine ah.step () hi trivial ?_;simp only [go_sem,seval,hst]
  ·rw [if_pos q] at hst;have p:=kP Y0 [x.inst,x.bg,x.cost] (by decide) (by simp) (Uf hx.2.1 hx.2.2.1 hx.2.2.2);have hst2:bU (C++O)++[[.str (B (EF x))]]=bU (C++ny aB.who EF w (s.book.qs.take (i+1))):=by rw [hst,<- jC,List.append_assoc]
   rw [show Y0++dP [x.inst,x.bg,x.cost]=EF x from rfl] at p;obtain ⟨T,hT⟩:=aH (EF x);rw [<- hT] at p hst2;simp only [ints,List.map_cons,List.map_nil] at p;clear hT hst;simp only [go_sem,seval,q,hwi];(with_reducible and_intros)<;>first|exact .dq|omega|skip
   refine aa.gen [] [] true (by simp) ?_;simp only [go_sem,seval,mL];refine aU.intro p ?_;simp only [go_sem,seval,hwi];(with_reducible and_intros)<;>first|exact .dq|omega|skip
   refine ah.step () hi trivial ?_;simp only [go_sem,seval,hst2]
 intro _ hdx _;simp only [go_sem,seval,aJ,hdx,List.take_length];(with_reducible and_intros)<;>first|exact .dq|omega|skip
 obtain ⟨C2,hC2⟩:=aH (C++ny aB.who EF w s.book.qs);have hcl2:C2.length<=4+s.book.qs.length:=by rw [hC2,List.length_append,hcl];have:=uS (who:=aB.who) (f:=EF) (w:=w) s.book.qs;omega
 rw [<- hC2] at hL2 |-;clear hC2 hcl;refine aC.walk (S:=Unit) s.ps.length [1,2,91,92] [48,1488] (fun i _=>[(93,.int .i64 i),(8,.ref 1760)]) (fun i _=>[(1760,.own 1 (bU (C2++ny dS.who Gw w (s.ps.take i))))]) (fun _ _=>True) () trivial ?_ ?_ ?_
 ·simp only [go_sem,seval]<;>simp [bU,ny]
 ·intro i _ hi hdi hwi _;have hm:(pl s.ps).getD i []=dS.cells s.ps[i]:=aG (c:=dS.cells) s.ps hi;have hli:(i:Int) < (s.ps.length:Int):=by omega
  have hx:=hr.ps _ (List.getElem_mem hi);have hst:=BF (who:=dS.who) (f:=Gw) (w:=w) hi;have hol:=uS (who:=dS.who) (f:=Gw) (w:=w) (s.ps.take i);rw [List.length_take] at hol;obtain ⟨x,hxd⟩:=aH (s.ps[i]);rw [<- hxd] at hm hx hst;obtain ⟨O,hO⟩:=aH (ny dS.who Gw w (s.ps.take i));rw [<- hO] at hst hol |-;have hco:(C2++O).length<=8589934592:=by rw [List.length_append];omega
  clear hO hxd hL2;simp only [dS.cells] at hm;simp only [go_sem,seval,aJ,hdi,hm];(with_reducible and_intros)<;>first|exact .dq|omega|skip
  cases q:dS.who x==w
  ·rw [if_neg (by rw [q];decide)] at hst;simp only [go_sem,seval,q,hwi];(with_reducible and_intros)<;>first|exact .dq|omega|skip
   refine ah.step () hi trivial ?_;simp only [go_sem,seval,hst]
  ·rw [if_pos q] at hst;have p:=kP Km [x.bG,x.units] (by decide) (by simp) (En hx.2.1 hx.2.2);have hst2:bU (C2++O)++[[.str (B (Gw x))]]=bU (C2++ny dS.who Gw w (s.ps.take (i+1))):=by rw [hst,<- jC,List.append_assoc]
   rw [show Km++dP [x.bG,x.units]=Gw x from rfl] at p;obtain ⟨T,hT⟩:=aH (Gw x);rw [<- hT] at p hst2;simp only [ints,List.map_cons,List.map_nil] at p;clear hT hst;simp only [go_sem,seval,q,hwi];(with_reducible and_intros)<;>first|exact .dq|omega|skip
   refine aa.gen [] [] true (by simp) ?_;simp only [go_sem,seval,mL];refine aU.intro p ?_;simp only [go_sem,seval,hwi];(with_reducible and_intros)<;>first|exact .dq|omega|skip
   refine ah.step () hi trivial ?_;simp only [go_sem,seval,hst2]
 intro _ hdx _;simp only [go_sem,seval,aJ,hdx,List.take_length];(with_reducible and_intros)<;>first|exact .dq|omega|skip
 obtain ⟨C3,hC3⟩:=aH (C2++ny dS.who Gw w s.ps);have hcl3:C3.length<=4+s.book.qs.length+s.ps.length:=by rw [hC3,List.length_append];have:=uS (who:=dS.who) (f:=Gw) (w:=w) s.ps;omega
 rw [<- hC3] at hL2 |-;clear hC3 hcl2;refine aC.walk (S:=Unit) s.calls.length [1,112,113] [48,1824] (fun i _=>[(114,.int .i64 i),(8,.ref 2176)]) (fun i _=>[(2176,.own 1 (bU (C3++ny aA.who Aj w (s.calls.take i))))]) (fun _ _=>True) () trivial ?_ ?_ ?_
 ·simp only [go_sem,seval]<;>simp [bU,ny]
 ·intro i _ hi hdi hwi _;have hm:=aG (c:=aA.cells) s.calls hi;have hli:(i:Int) < (s.calls.length:Int):=by omega
  have hx:=hr.calls _ (List.getElem_mem hi);have hst:=BF (who:=aA.who) (f:=Aj) (w:=w) hi;have hol:=uS (who:=aA.who) (f:=Aj) (w:=w) (s.calls.take i);rw [List.length_take] at hol;obtain ⟨x,hxd⟩:=aH (s.calls[i]);rw [<- hxd] at hm hx hst;obtain ⟨O,hO⟩:=aH (ny aA.who Aj w (s.calls.take i));rw [<- hO] at hst hol |-;have hco:(C3++O).length<=8589934592:=by rw [List.length_append];omega
  clear hO hxd hL2;simp only [aA.cells] at hm;simp only [go_sem,seval,aJ,hdi,hm];(with_reducible and_intros)<;>first|exact .dq|omega|skip
  cases q:aA.who x==w
  ·rw [if_neg (by rw [q];decide)] at hst;simp only [go_sem,seval,q,hwi];(with_reducible and_intros)<;>first|exact .dq|omega|skip
   refine ah.step () hi trivial ?_;simp only [go_sem,seval,hst]
  ·rw [if_pos q] at hst;have p:=kP Uz [x.cur,x.cm,x.till] (by decide) (by simp) (Uf hx.2.1 hx.2.2.1 hx.2.2.2);have hst2:bU (C3++O)++[[.str (B (Aj x))]]=bU (C3++ny aA.who Aj w (s.calls.take (i+1))):=by rw [hst,<- jC,List.append_assoc]
   rw [show Uz++dP [x.cur,x.cm,x.till]=Aj x from rfl] at p;obtain ⟨T,hT⟩:=aH (Aj x);rw [<- hT] at p hst2;simp only [ints,List.map_cons,List.map_nil] at p;clear hT hst;simp only [go_sem,seval,q,hwi];(with_reducible and_intros)<;>first|exact .dq|omega|skip
   refine aa.gen [] [] true (by simp) ?_;simp only [go_sem,seval,mL];refine aU.intro p ?_;simp only [go_sem,seval,hwi];(with_reducible and_intros)<;>first|exact .dq|omega|skip
   refine ah.step () hi trivial ?_;simp only [go_sem,seval,hst2]
 intro _ hdx _;rw [hL2];simp only [go_sem,seval,aJ,hdx,List.take_length]
theorem Gc (s:af) (w:Int) (hr:s.cU) (hsm:s.small) (hw:dj w):Abs.Spec Tryz.prog 8 [] [.agg s.cells,.int .i64 w] [] (.bI [.sl 1 (bU (if dQ s.aj w then rN s w else [])),.int .i64 (if dQ s.aj w then 0 else 10)]):=by
 refine Spec.frozen (Hz s w hr hsm hw) [0] rfl ?_;intro r;rcases r with _ | r<;>rfl
open Go.Lib (itoa)
theorem T7 (s:af) (w c:Int):Hf (xG s w c) []=[LR,itoa c,itoa (fj ⟨2,w,c⟩ s.aW.bs),M1,itoa c,itoa (fj ⟨3,w,c⟩ s.aW.bs)]:=by
 have e:xG s w c=LR++32 :: (itoa c++32 :: (itoa (fj ⟨2,w,c⟩ s.aW.bs)++32 :: (M1++32 :: (itoa c++32 :: itoa (fj ⟨3,w,c⟩ s.aW.bs))))):=by
  simp [xG,dP]
 rw [e,oJ _ _ _ (by decide),oJ _ _ _ (vM _),oJ _ _ _ (vM _),oJ _ _ _ (by decide),oJ _ _ _ (vM _),Gq _ _ (vM _)];rfl
def qn {A:Type} (who:A->Int) (w:Int) (l:List A):Nat:=(l.filter fun x=>who x==w).length
theorem BO {A:Type} {who:A->Int} {w:Int} {l:List A} {i:Nat} (hi:i < l.length):qn who w (l.take (i+1))=if (who l[i]==w)=true then qn who w (l.take i)+1 else qn who w (l.take i):=by
 rw [List.take_succ_eq_append_getElem hi,qn,List.filter_append,List.length_append];cases h:(who l[i]==w)<;>simp [qn,h]
theorem vL {A:Type} (who:A->Int) (w:Int) (l:List A):qn who w l<=l.length:=List.length_filter_le ..
theorem PA (s:af) (w:Int):(rN s w).length=4+qn aB.who w s.book.qs+qn dS.who w s.ps+qn aA.who w s.calls:=by
 simp [rN,sW,ny,qn];omega
theorem Re (s:af) (w:Int) {c:Nat} (hc:c < 3):(bU (rN s w)).getD (1+c) []=[.str (B (xG s w c))]:=by
 have:c=0\/c=1\/c=2:=by omega
 rcases this with rfl | rfl | rfl<;>rfl
theorem T6 (s:af) (w:Int):LK s w=[109,101,109,98,101,114,32]++itoa w++[32]++itoa (ew s.aj w).state++[32]++itoa (ew s.aj w).need:=by
 simp [LK,dP]
theorem Bp (l:List aZ) (who:Int) (hwh:dj who):Abs.Spec Tryz.prog 3 [] [.sl 17 (l.map aZ.cells),.int .i64 who] [] (.bool true):=by
 have hwk:=nR;rcases Nat.lt_or_ge 1000 l.length with hlen | hlen
 ·have d:decide ((1000:Int) < (l.length:Int))=true:=decide_eq_true (by omega);refine bu 215 2 [.tmp 4] mixed Tryz.func3 ?_;simp only [go_sem,seval,aJ,d]
 have d:decide ((1000:Int) < (l.length:Int))=false:=decide_eq_false (by omega);have hG:=sP l hlen;obtain ⟨hf,hp⟩:=zC l;obtain ⟨s,hs⟩:=aH (Dm l);rw [<- hs] at hG hf;clear hs hp;have hrng:=hf.right.cU hf.last hf.fit;have hsm:=hf.good.small;have hR:=Gc s who hrng hsm hwh;have h30:=hsm.aj.1;simp only [af.cells] at hG hR;refine bu 215 2 [.tmp 4] mixed Tryz.func3 ?_;simp only [go_sem,seval,aJ,d];(with_reducible and_intros)<;>first|exact .dq|omega|skip
 refine aa.pure hG ?_;simp only [go_sem,seval];(with_reducible and_intros)<;>first|exact .dq|omega|skip
 refine aa.pure hR ?_;clear hG hR;cases hi:dQ s.aj who
 ·have hno:∀ x∈s.aj.ms,(x.no==who)=false:=by
   intro x hx;cases q:x.no==who
   ·rfl
   ·have:=q9.2 ⟨x,hx,by simpa using q⟩;rw [hi] at this;cases this
  simp only [fZ,if_false,bU,List.map_nil];simp only [go_sem,seval];(with_reducible and_intros)<;>first|exact .dq|omega|skip
  refine aC.walk (S:=Unit) s.aj.ms.length [1,5,6,7,8] [96,432] (fun i _=>[(9,.bool false),(10,.int .i64 i)]) (fun _ _=>[]) (fun _ _=>True) () trivial ?_ ?_ ?_
  ·simp only [go_sem,seval]<;>simp
  ·intro i _ hi' hdi hwi _;have hm:=aG (c:=ak.cells) s.aj.ms hi';have hn:=hno _ (List.getElem_mem hi');have hli:(i:Int) < (s.aj.ms.length:Int):=by omega
   obtain ⟨x,hx⟩:=aH (s.aj.ms[i]);rw [<- hx] at hm hn;simp only [ak.cells] at hm;clear hx hno;simp only [go_sem,seval,aJ,hdi,hm,hn,hwi];(with_reducible and_intros)<;>first|exact .dq|omega|skip
   refine ah.step () hi' trivial ?_;simp only [go_sem,seval]
  ·intro _ hdx _;simp only [go_sem,seval,aJ,hdx];(with_reducible and_intros)<;>first|exact .dq|omega|skip
   refine aa.pure hwk ?_;simp only [go_sem,seval]
 have hlL:=PA s who;have h0L:(bU (rN s who)).getD 0 []=[.str (B (LK s who))]:=rfl;have hatL:=fun (c:Nat) (hc:c < 3)=>Re s who hc
 have hH:=T6 s who;have hmem:=(q9.1 hi)
 obtain ⟨L,hLd⟩:=aH (rN s who);rw [<- hLd] at hlL h0L hatL |-;clear hLd hi;have hpos:decide ((0:Int) < (L.length:Int))=true:=decide_eq_true (by omega);have hne0:((L.length:Int)==0)=false:=by rw [beq_eq_false_iff_ne];omega
 rw [hH] at h0L;have iw:=dA who hwh;simp only [if_true];simp only [go_sem,seval];(with_reducible and_intros)<;>first|exact .dq|omega|skip
 refine aC.walk (S:=Unit) s.aj.ms.length [1,5,6,7,8] [96,432] (fun i _=>[(9,.bool ((s.aj.ms.take i).any fun x=>x.no==who)),(10,.int .i64 i)]) (fun _ _=>[]) (fun _ _=>True) () trivial ?_ ?_ ?_
 ·simp only [go_sem,seval]<;>simp
 ·intro i _ hi' hdi hwi _;have hm:=aG (c:=ak.cells) s.aj.ms hi'
  have hst:((s.aj.ms.take (i+1)).any fun x=>x.no==who)=(((s.aj.ms.take i).any fun x=>x.no==who)||(s.aj.ms[i].no==who)):=by
   rw [List.take_succ_eq_append_getElem hi',List.any_append];simp
  have hmm:=List.getElem_mem hi';have hrm:=hrng.ms _ hmm
  have hgm:(s.aj.ms[i].no==who)=true->ew s.aj who=s.aj.ms[i]:=fun e=>by
   have e:s.aj.ms[i].no=who:=by simpa using e
   exact Av (eo.1 hf.right.aj).1.2 hmm e
  have hli:(i:Int) < (s.aj.ms.length:Int):=by omega
  obtain ⟨x,hx⟩:=aH (s.aj.ms[i]);rw [<- hx] at hm hst hrm hgm;obtain ⟨A,hA⟩:=aH ((s.aj.ms.take i).any fun x=>x.no==who);rw [<- hA] at hst |-;simp only [ak.cells] at hm;clear hx hA hmem hmm;cases q:x.no==who
  ·rw [q,Bool.or_false] at hst;simp only [go_sem,seval,aJ,hdi,hm,q,hwi];(with_reducible and_intros)<;>first|exact .dq|omega|skip
   refine ah.step () hi' trivial ?_;simp only [go_sem,seval,hst]
  ·rw [q,Bool.or_true] at hst;have hg:=hgm q;rw [hg] at h0L;simp only [List.cons_append,List.nil_append] at h0L;have i1:=dA x.state hrm.2.1;have i2:=dA x.need hrm.2.2;have z0:=fc who hwh;have z1:=fc x.state hrm.2.1;have z2:=fc x.need hrm.2.2;simp only [go_sem,seval,aJ,hdi,hm,q,hwi,gl,hne0,hpos,h0L];(with_reducible and_intros)<;>first|exact .dq|omega|skip
   refine aa.pure iw ?_;simp only [go_sem,seval,hm,aJ,mL,zz,eZ,List.length_append,List.length_cons,List.length_nil];(with_reducible and_intros)<;>first|exact .dq|omega|skip
   refine aa.pure i1 ?_;simp only [go_sem,seval,hm,aJ,mL,zz,eZ,List.length_append,List.length_cons,List.length_nil];(with_reducible and_intros)<;>first|exact .dq|omega|skip
   refine aa.pure i2 ?_;simp only [go_sem,seval,hm,aJ,mL,zz,eZ,List.length_append,List.length_cons,List.length_nil,beq_self_eq_true,hwi];(with_reducible and_intros)<;>first|exact .dq|omega|skip
   refine ah.step () hi' trivial ?_;simp only [go_sem,seval,hst]
 intro _ hdx _
 have hany:(s.aj.ms.any fun x=>x.no==who)=true:=by
  obtain ⟨x,hx,e⟩:=hmem;exact List.any_eq_true.2 ⟨x,hx,by simpa using e⟩
 have hlb:=hsm.aW;have hlq:=hsm.book.2;have hlp:=hsm.ps;have hlc:=hsm.calls;have hcq:=vL aB.who who s.book.qs;have hcp:=vL dS.who who s.ps;have hcc:=vL aA.who who s.calls;simp only [go_sem,seval,aJ,hdx,List.take_length,hany];(with_reducible and_intros)<;>first|exact .dq|omega|skip
 refine aC.walk (S:=Unit) s.book.qs.length [1,5,6] [96,432] (fun i _=>[(8,.int .i64 ((4+qn aB.who who (s.book.qs.take i):Nat):Int)),(11,.int .i64 i)]) (fun _ _=>[]) (fun _ _=>True) () trivial ?_ ?_ ?_
 ·simp only [go_sem,seval]<;>simp [qn]
 ·intro i _ hi' hdi hwi _;have hm:=aG (c:=aB.cells) s.book.qs hi';have hst:=BO (who:=aB.who) (w:=who) hi';have hcl:=vL aB.who who (s.book.qs.take i);rw [List.length_take] at hcl;have hli:(i:Int) < (s.book.qs.length:Int):=by omega
  obtain ⟨x,hx⟩:=aH (s.book.qs[i]);rw [<- hx] at hm hst;obtain ⟨k,hk⟩:=aH (qn aB.who who (s.book.qs.take i));rw [<- hk] at hst hcl |-;have hw:IntKind.wrap .i64 (((4+k:Nat):Int)+1)=((4+(k+1):Nat):Int):=by rw [bn (by omega) (by omega)];omega
  simp only [aB.cells] at hm;clear hx hk;cases q:x.who==who
  ·rw [if_neg (by rw [q];decide)] at hst;simp only [go_sem,seval,aJ,hdi,hm,q,hwi];(with_reducible and_intros)<;>first|exact .dq|omega|skip
   refine ah.step () hi' trivial ?_;simp only [go_sem,seval,hst]
  ·rw [if_pos q] at hst;simp only [go_sem,seval,aJ,hdi,hm,q,hwi,hw];(with_reducible and_intros)<;>first|exact .dq|omega|skip
   refine ah.step () hi' trivial ?_;simp only [go_sem,seval,hst]
 intro _ hdx _;simp only [go_sem,seval,aJ,hdx,List.take_length];(with_reducible and_intros)<;>first|exact .dq|omega|skip
 obtain ⟨k1,hk1⟩:∃ k,k=qn aB.who who s.book.qs:=⟨_,rfl⟩
 rw [<- hk1] at hlL hcq |-;clear hk1;refine aC.walk (S:=Unit) s.ps.length [1,5,6] [96,432] (fun i _=>[(8,.int .i64 ((4+k1+qn dS.who who (s.ps.take i):Nat):Int)),(12,.int .i64 i)]) (fun _ _=>[]) (fun _ _=>True) () trivial ?_ ?_ ?_
 ·simp only [go_sem,seval]<;>simp [qn]
 ·intro i _ hi' hdi hwi _;have hm:(pl s.ps).getD i []=dS.cells s.ps[i]:=aG (c:=dS.cells) s.ps hi';have hst:=BO (who:=dS.who) (w:=who) hi';have hcl:=vL dS.who who (s.ps.take i);rw [List.length_take] at hcl;have hli:(i:Int) < (s.ps.length:Int):=by omega
  obtain ⟨x,hx⟩:=aH (s.ps[i]);rw [<- hx] at hm hst;obtain ⟨k,hk⟩:=aH (qn dS.who who (s.ps.take i));rw [<- hk] at hst hcl |-;have hw:IntKind.wrap .i64 (((4+k1+k:Nat):Int)+1)=((4+k1+(k+1):Nat):Int):=by rw [bn (by omega) (by omega)];omega
  simp only [dS.cells] at hm;clear hx hk;cases q:x.who==who
  ·rw [if_neg (by rw [q];decide)] at hst;simp only [go_sem,seval,aJ,hdi,hm,q,hwi];(with_reducible and_intros)<;>first|exact .dq|omega|skip
   refine ah.step () hi' trivial ?_;simp only [go_sem,seval,hst]
  ·rw [if_pos q] at hst;simp only [go_sem,seval,aJ,hdi,hm,q,hwi,hw];(with_reducible and_intros)<;>first|exact .dq|omega|skip
   refine ah.step () hi' trivial ?_;simp only [go_sem,seval,hst]
 intro _ hdx _;simp only [go_sem,seval,aJ,hdx,List.take_length];(with_reducible and_intros)<;>first|exact .dq|omega|skip
 obtain ⟨k2,hk2⟩:∃ k,k=qn dS.who who s.ps:=⟨_,rfl⟩
 rw [<- hk2] at hlL hcp |-;clear hk2;refine aC.walk (S:=Unit) s.calls.length [1,5,6] [96,432] (fun i _=>[(8,.int .i64 ((4+k1+k2+qn aA.who who (s.calls.take i):Nat):Int)),(13,.int .i64 i)]) (fun _ _=>[]) (fun _ _=>True) () trivial ?_ ?_ ?_
 ·simp only [go_sem,seval]<;>simp [qn]
 ·intro i _ hi' hdi hwi _;have hm:=aG (c:=aA.cells) s.calls hi';have hst:=BO (who:=aA.who) (w:=who) hi';have hcl:=vL aA.who who (s.calls.take i);rw [List.length_take] at hcl;have hli:(i:Int) < (s.calls.length:Int):=by omega
  obtain ⟨x,hx⟩:=aH (s.calls[i]);rw [<- hx] at hm hst;obtain ⟨k,hk⟩:=aH (qn aA.who who (s.calls.take i));rw [<- hk] at hst hcl |-;have hw:IntKind.wrap .i64 (((4+k1+k2+k:Nat):Int)+1)=((4+k1+k2+(k+1):Nat):Int):=by rw [bn (by omega) (by omega)];omega
  simp only [aA.cells] at hm;clear hx hk;cases q:x.who==who
  ·rw [if_neg (by rw [q];decide)] at hst;simp only [go_sem,seval,aJ,hdi,hm,q,hwi];(with_reducible and_intros)<;>first|exact .dq|omega|skip
   refine ah.step () hi' trivial ?_;simp only [go_sem,seval,hst]
  ·rw [if_pos q] at hst;simp only [go_sem,seval,aJ,hdi,hm,q,hwi,hw];(with_reducible and_intros)<;>first|exact .dq|omega|skip
   refine ah.step () hi' trivial ?_;simp only [go_sem,seval,hst]
 intro _ hdx _;simp only [go_sem,seval,aJ,hdx,List.take_length,gl,hlL,beq_self_eq_true];(with_reducible and_intros)<;>first|exact .dq|omega|skip
 have hL4:4<=L.length:=by omega
 clear hlL hne0 hpos h0L hH hmem hany;refine aC.walk (S:=Unit) 3 [1,5,6] [96,432] (fun i _=>[(14,.int .i64 i)]) (fun _ _=>[]) (fun _ _=>True) () trivial ?_ ?_ ?_
 ·simp only [go_sem,seval]<;>simp
 ·intro i _ hi' _ hwi _;have hdi:decide ((i:Int) < 3)=true:=decide_eq_true (by omega);have hc:dj (i:Int):=⟨by omega,by omega⟩
  have hat:=hatL i hi';have hsp:=T7 s who i;have hcl:=Rn s who i hc hrng.bs;have hO2:=gV s.aW ⟨2,who,i⟩ (by omega);have hO3:=gV s.aW ⟨3,who,i⟩ (by omega);have i0:=dA (i:Int) hc;have i2:=dA (fj ⟨2,who,i⟩ s.aW.bs) (pJ hrng.bs);have i3:=dA (fj ⟨3,who,i⟩ s.aW.bs) (pJ hrng.bs);obtain ⟨C,hC⟩:=aH (xG s who i);rw [<- hC] at hat hsp hcl;obtain ⟨x,hx⟩:=aH (fj ⟨2,who,i⟩ s.aW.bs);rw [<- hx] at hsp hO2 i2;obtain ⟨y,hy⟩:=aH (fj ⟨3,who,i⟩ s.aW.bs);rw [<- hy] at hsp hO3 i3;have hW:=Gm C (by omega);rw [hsp] at hW;have hix:IntKind.wrap .i64 (1+(i:Int))=((1+i:Nat):Int):=by rw [bn (by omega) (by omega)];omega
  have hlt:decide (((1+i:Nat):Int) < (L.length:Int))=true:=decide_eq_true (by omega);have hlt2:((1+i:Nat):Int) < (L.length:Int):=by omega
  have h01:(0:Int)<=((1+i:Nat):Int):=by omega
  simp only [bz.cells,aD.cells] at hO2 hO3;simp only [bU,List.map_cons,List.map_nil] at hW;clear hC hx hy hsp hcl hatL;simp only [go_sem,seval,hdi,hix,gl,Int.toNat_natCast,hat];(with_reducible and_intros)<;>first|exact .dq|omega|skip
  refine aa.pure hW ?_;simp only [go_sem,seval];(with_reducible and_intros)<;>first|exact .dq|omega|skip
  refine aa.pure hO2 ?_;simp only [go_sem,seval];(with_reducible and_intros)<;>first|exact .dq|omega|skip
  refine aa.pure hO3 ?_;simp only [go_sem,seval,mL,beq_self_eq_true];(with_reducible and_intros)<;>first|exact .dq|omega|skip
  refine aa.pure i0 ?_;simp only [go_sem,seval,mL,beq_self_eq_true];(with_reducible and_intros)<;>first|exact .dq|omega|skip
  refine aa.pure i2 ?_;simp only [go_sem,seval,mL,beq_self_eq_true];(with_reducible and_intros)<;>first|exact .dq|omega|skip
  refine aa.pure i3 ?_;simp only [go_sem,seval,mL,beq_self_eq_true,hwi];(with_reducible and_intros)<;>first|exact .dq|omega|skip
  refine ah.step () hi' trivial ?_;simp only [go_sem,seval]
 ·intro _ _ _;have hdx:decide (((3:Nat):Int) < 3)=false:=by decide
  simp only [go_sem,seval,hdx];(with_reducible and_intros)<;>first|exact .dq|omega|skip
  refine aa.pure hwk ?_;simp only [go_sem,seval]
end Go.Proofs.YtnkobepdbkmedaaGreatDoor
