/- What is told of risks, and what follows. No theorem of a claim. -/
import Derived.Test.YtnkobepdbkmedaaGreatDoorKW
import Derived.Test.YtnkobepdbkmedaaGreatDoorKF
import Derived.Test.YtnkobepdbkmedaaGreatDoorKO
import Derived.Test.YtnkobepdbkmedaaGreatDoorKL
set_option linter.unusedSimpArgs false
set_option linter.unusedVariables false
set_option maxHeartbeats 4000000
set_option maxRecDepth 16000
namespace Go.Proofs.YtnkobepdbkmedaaGreatDoor
open Go.Abs
open Go.Lib (itoa)
theorem SV (r:aq) (ss:List Int) (h:r.jt) (hs:ss.length < 2 ^ 30):Abs.Spec Tryz.prog 36 [] [.agg r.cells,.sl 1 (ints ss)] [.own 1 (ints (gB r ss))] (.ref 0):=by
 have hl:=h.1;simp only [aq.cells];refine bu 26 2 [.tmp 4] mixed Tryz.func36 ?_;simp only [go_sem,seval,aJ];(with_reducible and_intros)<;>first|exact .dq|omega|skip
 refine aC.walk (S:=Unit) r.ms.length [1,9,10] [48,176] (fun i _=>[(11,.int .i64 i),(5,.ref 384)]) (fun i _=>[(384,.own 1 (ints (pick (fun m:ak=>lR ss m.state) ak.no (r.ms.take i))))]) (fun _ _=>True) () trivial ?_ ?_ ?_
 ·simp only [go_sem,seval]<;>simp [pick,ints]
 ·intro i _ hi hdi hwi _;have hm:=aG (c:=ak.cells) r.ms hi;have hst:=vI (fun m:ak=>lR ss m.state) ak.no hi;have hpl:=bW (fun m:ak=>lR ss m.state) ak.no (r.ms.take i);rw [List.length_take] at hpl;have hli:(i:Int) < (r.ms.length:Int):=by omega
  obtain ⟨x,hx⟩:=aH (r.ms[i]);rw [<- hx] at hm hst;obtain ⟨O,hO⟩:=aH (pick (fun m:ak=>lR ss m.state) ak.no (r.ms.take i));rw [<- hO] at hst hpl |-;have hC:=xQ ss x.state (by omega);have hil:(ints O).length<=2147483648:=by rw [av];omega
  simp only [ak.cells] at hm;clear hx hO;simp only [go_sem,seval,aJ,hdi,hm];(with_reducible and_intros)<;>first|exact .dq|omega|skip
  refine aa.pure hC ?_;cases q:lR ss x.state
  ·rw [q] at hst;simp only [fZ,if_false,List.append_nil] at hst;simp only [go_sem,seval,hwi];(with_reducible and_intros)<;>first|exact .dq|omega|skip
   refine ah.step () hi trivial ?_;simp only [go_sem,seval,hst]
  ·rw [q] at hst;simp only [if_true] at hst;have hst2:ints O++[[.int .i64 x.no]]=ints (pick (fun m:ak=>lR ss m.state) ak.no (r.ms.take (i+1))):=by rw [hst];simp [ints]
   simp only [go_sem,seval,hwi];(with_reducible and_intros)<;>first|exact .dq|omega|skip
   refine ah.step () hi trivial ?_;simp only [go_sem,seval,hst2]
 ·intro _ hdx _;simp only [go_sem,seval,aJ,hdx,List.take_length,gB]
theorem OU (r:aq) (ss:List Int) (h:r.jt) (hs:ss.length < 2 ^ 30):Abs.Spec Tryz.prog 36 [] [.agg r.cells,.sl 1 (ints ss)] [] (.sl 1 (ints (gB r ss))):=by
 refine Spec.frozen (SV r ss h hs) [0] rfl ?_;intro r;rcases r with _ | r<;>rfl
theorem HY (l:bz) (r:aq) (ps:List dS) (w c:Int):bL (tG l r ps w c)=true:=by
 unfold tG qB;(repeat' split)<;>first | rfl | simp_all
theorem Ik (s:af) (w c:Int):bL (Hg s w c)=true:=by
 unfold Hg xE;(repeat' split)<;>first | rfl | simp_all
theorem Ct {n:Int} (h:bL n=true):dj n:=by
 rw [cg] at h;exact ⟨by omega,by omega⟩
abbrev Iu:List UInt8:=[114,105,115,107]
def P8 (s:af) (p:Int × Int):Int:=pI s.aj p.1 p.2 s.book.qs
def P6 (s:af) (p:Int × Int):Int:=
 if pG s.aj p.1 p.2 s.book.qs=0 then (if P8 s p=0 then 0 else if vP s.aW s.aj s.ps p.1 p.2=0 then Rt s p.1 p.2 else vP s.aW s.aj s.ps p.1 p.2) else pG s.aj p.1 p.2 s.book.qs
def rkF (s:af) (p:Int × Int):List UInt8:=Iu++dP [p.1,p.2,P8 s p,tG s.aW s.aj s.ps p.1 p.2]
def Wj (s:af) (p:Int × Int):List UInt8:=rkF s p++32 :: itoa (Hg s p.1 p.2)
def xR (s:af) (l:List (Int × Int)):List (List UInt8):=(l.filter fun p=>!(P8 s p==0)).map (Wj s)
theorem Ea (s:af) (a b:List (Int × Int)):xR s (a++b)=xR s a++xR s b:=by simp [xR]
theorem Qn (s:af) (p:Int × Int):xR s [p]=if (P8 s p==0)=true then [] else [Wj s p]:=by
 cases q:P8 s p==0<;>simp [xR,q]
theorem Qt (s:af) (a:List (Int × Int)):(xR s a).length<=a.length:=by
 rw [xR,aJ];exact List.length_filter_le ..
def Mf (s:af):List (Int × Int)->Int
 | []=>0
 | p :: r=>if P6 s p=0 then Mf s r else P6 s p
theorem PI {s:af} {p:Int × Int} {b:List (Int × Int)} (h:P6 s p≠0):∀ {a:List (Int × Int)},(∀ q∈a,P6 s q=0)->Mf s (a++p :: b)=P6 s p
 | [],_=>by simp [Mf,h]
 | q :: a,hq=>by
  rw [List.cons_append,Mf,if_pos (hq q (by simp))];exact PI h fun x hx=>hq x (by simp [hx])
theorem H8 {s:af}:∀ {a:List (Int × Int)},(∀ q∈a,P6 s q=0)->Mf s a=0
 | [],_=>rfl
 | q :: a,hq=>by
  rw [Mf,if_pos (hq q (by simp))];exact H8 fun x hx=>hq x (by simp [hx])
def xK (w:Int) (n:Nat):List (Int × Int):=(List.range n).map fun (c:Nat)=>(w,(c:Int))
theorem L2 (w:Int) (n:Nat):xK w (n+1)=xK w n++[(w,(n:Int))]:=by simp [xK,List.range_succ]
def jK (ws:List Int):List (Int × Int):=ws.flatMap fun w=>xK w 3
theorem TX {ws:List Int} {i:Nat} (hi:i < ws.length):jK (ws.take (i+1))=jK (ws.take i)++xK ws[i] 3:=by
 rw [List.take_succ_eq_append_getElem hi,jK,List.flatMap_append];simp [jK]
theorem PO (ws:List Int):(jK ws).length=3*ws.length:=by
 induction ws with
 | nil=>rfl
 | cons w r ih =>
  rw [show jK (w :: r)=xK w 3++jK r from rfl,List.length_append,ih];simp [xK];omega
theorem Jr (w:Int) {c:Nat} (hc:c < 3):∃ b,xK w 3=xK w c++(w,(c:Int)) :: b:=by
 rcases (by omega:c=0\/c=1\/c=2) with rfl | rfl | rfl
 ·exact ⟨_,rfl⟩
 ·exact ⟨_,rfl⟩
 ·exact ⟨_,rfl⟩
theorem R3 {ws:List Int} {i:Nat} (hi:i < ws.length) {c:Nat} (hc:c < 3):∃ b,jK ws=(jK (ws.take i)++xK ws[i] c)++(ws[i],(c:Int)) :: b:=by
 obtain ⟨b,hb⟩:=Jr ws[i] hc;refine ⟨b++jK (ws.drop (i+1)),?_⟩;have e:ws=ws.take i++(ws[i] :: ws.drop (i+1)):=by rw [<- List.drop_eq_getElem_cons hi,List.take_append_drop]
 have e2:jK ws=jK (ws.take i)++(xK ws[i] 3++jK (ws.drop (i+1))):=by
  conv=>lhs;rw [e]
  rw [jK,List.flatMap_append];rfl
 rw [e2,hb];simp
def yJ (s:af):Int:=if bD s then Mf s (jK (gB s.aj [1])) else 14
def Em (s:af):List (List UInt8):=if yJ s=0 then xR s (jK (gB s.aj [1])) else []
theorem Jc (a b c d e:List UInt8):Go.Lib.join [Iu,a,b,c,d,e] [32]=Iu++(32 :: a++(32 :: b++(32 :: c++(32 :: d++32 :: e)))):=by
 simp [Go.Lib.join_cons,Go.Lib.joinTail]
theorem aas (s:af) (p:Int × Int):Go.Lib.join [Iu,itoa p.1,itoa p.2,itoa (P8 s p),itoa (tG s.aW s.aj s.ps p.1 p.2),itoa (Hg s p.1 p.2)] [32]=Wj s p:=by
 rw [Jc];simp [Wj,rkF,dP]
theorem J4 (s:af) (hs:s.small) (hw:∀ m∈s.aj.ms,dj m.no):Abs.Spec Tryz.prog 19 [] [.agg s.cells] [.own 1 (bU (Em s))] (.bI [.ref 0,.int .i64 (yJ s)]):=by
 have hC:=DV s hs;have hfit:s.fit:=⟨hs.aj.small,hs.book,hs.aW,hs.ps⟩
 have hT:=OU s.aj [1] hs.aj (by simp);have hM:=fun w c=>CO s.aj w c s.book.qs hs.aj.small hs.book.2
 have hO:=fun w c=>Qq s.aW s.aj s.ps w c hs.aW hs.aj.small hs.ps
 have hS:=fun w c=>OH s w c hfit
 have hr1:=hs.aj.1;have hwl:(gB s.aj [1]).length<=s.aj.ms.length:=bW ..
 have hww:∀ w∈gB s.aj [1],dj w:=by
  intro w hw';simp only [gB,pick,List.mem_flatMap] at hw';obtain ⟨m,hm,h⟩:=hw';split at h
  ·rw [List.mem_singleton.1 h];exact hw m hm
  ·cases h
 obtain ⟨ws,hws⟩:=aH (gB s.aj [1]);have hE:bD s=true->yJ s=Mf s (jK ws):=fun h=>by rw [yJ,if_pos h,hws]
 have hL:yJ s=0->Em s=xR s (jK ws):=fun h=>by rw [Em,if_pos h,hws]
 have hL0:yJ s≠0->Em s=[]:=fun h=>by rw [Em,if_neg h]
 rw [<- hws] at hT hwl hww;clear hws;simp only [af.cells,aq.cells,bz.cells,ints,List.map_cons,List.map_nil] at hC hT hM hO hS |-;refine bu 89 1 [.tmp 2,.tmp 3] mixed Tryz.func19 ?_;simp only [go_sem,seval];(with_reducible and_intros)<;>first|exact .dq|omega|skip
 refine aa.pure hC ?_;cases hr:bD s
 ·have e:yJ s=14:=by rw [yJ,hr];rfl
  have e2:=hL0 (by rw [e];decide);rw [e,e2];simp only [fZ,if_false];simp only [go_sem,seval];rfl
 replace hE:=hE hr
 simp only [if_true];simp only [go_sem,seval];(with_reducible and_intros)<;>first|exact .dq|omega|skip
 refine aa.gen [336] [] false (by simp) ?_;simp only [go_sem,seval];refine aU.intro hT ?_;simp only [go_sem,seval,aJ];(with_reducible and_intros)<;>first|exact .dq|omega|skip
 refine aC.walk (S:=Unit) ws.length [1,21,22] [32,352,368] (fun i _=>[(23,.int .i64 i),(5,.ref 1376)]) (fun i _=>[(1376,.own 1 (bU (xR s (jK (ws.take i)))))]) (fun i _=>∀ q∈jK (ws.take i),P6 s q=0) () (by simp [jK]) ?_ ?_ ?_
 ·simp only [go_sem,seval]<;>simp [jK,xR,bU]
 ·intro i _ hi hdi hwi hI;have hm:(ints ws).getD i []=[.int .i64 ws[i]]:=ints_at ws hi;have hwi64:=hww _ (List.getElem_mem hi);have hli:(i:Int) < (ws.length:Int):=by omega
  have hsp:=fun {c:Nat} hc=>R3 hi (c:=c) hc
  have hst:=TX hi;have hpl:=PO (ws.take i);rw [List.length_take] at hpl;obtain ⟨w,hwd⟩:=aH (ws[i]);simp only [<- hwd] at hm hwi64 hsp hst;obtain ⟨Q,hQ⟩:=aH (jK (ws.take i));rw [<- hQ] at hst hI hpl |-;simp only [<- hQ] at hsp;clear hwd hQ;simp only [ints] at hm;simp only [go_sem,seval,aJ,hdi,hm];(with_reducible and_intros)<;>first|exact .dq|omega|skip
  refine aC.walk (S:=Unit) 3 [1,7,21,22,23] [32,352,368] (fun c _=>[(27,.int .i64 c),(5,.ref 1376)]) (fun c _=>[(1376,.own 1 (bU (xR s (Q++xK w c))))]) (fun c _=>∀ q∈xK w c,P6 s q=0) () (by simp [xK]) ?_ ?_ ?_
  ·simp only [go_sem,seval]<;>simp [xK]
  ·intro c _ hc _ hwc hJ;have hdc:decide ((c:Int) < 3)=true:=decide_eq_true (by omega);have hci:dj (c:Int):=⟨by omega,by omega⟩
   obtain ⟨b,hb⟩:=hsp hc;have hts:=L2 w c
   have hno:P6 s (w,(c:Int))≠0->yJ s=P6 s (w,(c:Int))/\Em s=[]:=fun h=>by
    have e:yJ s=P6 s (w,(c:Int)):=by
     rw [hE,hb]
     exact PI h fun q hq=>by
      rcases List.mem_append.1 hq with hq | hq
      ·exact hI q hq
      ·exact hJ q hq
    exact ⟨e,hL0 (by rw [e];exact h)⟩
   have hyes:P6 s (w,(c:Int))=0->∀ q∈xK w (c+1),P6 s q=0:=fun h q hq=>by
    rw [hts] at hq;rcases List.mem_append.1 hq with hq | hq
    ·exact hJ q hq
    ·rw [List.mem_singleton.1 hq];exact h
   have hl1:=Qt s (Q++xK w c);have htl:(xK w c).length=c:=by simp [xK]
   rw [List.length_append,htl] at hl1;have hone:=Qn s (w,(c:Int));have happ:xR s (Q++xK w (c+1))=xR s (Q++xK w c)++xR s [(w,(c:Int))]:=by rw [hts,<- List.append_assoc,Ea]
   obtain ⟨R,hR⟩:=aH (xR s (Q++xK w c));rw [<- hR] at happ hl1 |-;have hMc:=hM w c;have hOc:=hO w c;have hSc:=hS w c;have hke:P6 s (w,(c:Int))=if pG s.aj w c s.book.qs=0 then (if P8 s (w,(c:Int))=0 then 0 else if vP s.aW s.aj s.ps w c=0 then Rt s w c else vP s.aW s.aj s.ps w c) else pG s.aj w c s.book.qs:=rfl
   have hjt:=aas s (w,(c:Int));have n1:dj (P8 s (w,(c:Int))):=Ct (yA ..);have n2:dj (tG s.aW s.aj s.ps w c):=Ct (HY ..);have n3:dj (Hg s w c):=Ct (Ik ..);simp only at hjt;rw [show pI s.aj w c s.book.qs=P8 s (w,(c:Int)) from rfl] at hMc;obtain ⟨T,hT2⟩:=aH (Wj s (w,(c:Int)));rw [<- hT2] at hjt hone;obtain ⟨M,hMd⟩:=aH (P8 s (w,(c:Int)));rw [<- hMd] at hke hjt hone n1 hMc;obtain ⟨ME,hME⟩:∃ M,M=pG s.aj w c s.book.qs:=⟨_,rfl⟩
   rw [<- hME] at hke hMc;obtain ⟨ON,hON⟩:∃ M,M=tG s.aW s.aj s.ps w c:=⟨_,rfl⟩
   rw [<- hON] at hjt n2 hOc;obtain ⟨OE,hOE⟩:∃ M,M=vP s.aW s.aj s.ps w c:=⟨_,rfl⟩
   rw [<- hOE] at hke hOc;obtain ⟨SN,hSN⟩:∃ M,M=Hg s w c:=⟨_,rfl⟩
   rw [<- hSN] at hjt n3 hSc;obtain ⟨SE,hSE⟩:∃ M,M=Rt s w c:=⟨_,rfl⟩
   rw [<- hSE] at hke hSc;have j1:=fc _ hwi64;have j2:=fc _ hci;have j3:=fc _ n1;have j4:=fc _ n2;have j5:=fc _ n3
   have hjl:(Go.Lib.join [Iu,itoa w,itoa c,itoa M,itoa ON,itoa SN] [32]).length<=1000:=by
    rw [Jc];simp only [List.length_append,List.length_cons,List.length_nil];omega
   have hJn:=Ip [Iu,itoa w,itoa c,itoa M,itoa ON,itoa SN] [32] (by simp) (by simp) (by omega);rw [hjt] at hJn;simp only [bU,List.map_cons,List.map_nil] at hJn;have i1:=dA _ hwi64;have i2:=dA _ hci;have i3:=dA _ n1;have i4:=dA _ n2;have i5:=dA _ n3;clear hM hO hS hR hT2 hMd hME hON hOE hSN hSE hjl hb hsp hJ;simp only [go_sem,seval,hdc];(with_reducible and_intros)<;>first|exact .dq|omega|skip
   refine aa.pure hMc ?_
   by_cases e1:ME=0
   case neg =>
    have q1:(ME==0)=false:=by simpa using e1
    rw [if_neg e1] at hke;obtain ⟨g1,g2⟩:=hno (by rw [hke];exact e1);rw [g1,g2,hke];simp only [go_sem,seval,bne,q1];rfl
   have q1:(ME==0)=true:=by simpa using e1
   rw [if_pos e1] at hke
   by_cases e2:M=0
   ·have q2:(M==0)=true:=by simpa using e2
    rw [if_pos e2] at hke;rw [if_pos q2] at hone;rw [hone,List.append_nil] at happ;simp only [go_sem,seval,bne,q1,q2,hwc];(with_reducible and_intros)<;>first|exact .dq|omega|skip
    refine ah.step () hc ?_ ?_
    ·exact hyes hke
    simp only [go_sem,seval,happ]
   have q2:(M==0)=false:=by simpa using e2
   rw [if_neg e2] at hke;rw [if_neg (by rw [q2];decide)] at hone;rw [hone] at happ;simp only [go_sem,seval,bne,q1,q2];(with_reducible and_intros)<;>first|exact .dq|omega|skip
   refine aa.pure hOc ?_
   by_cases e3:OE=0
   case neg =>
    have q3:(OE==0)=false:=by simpa using e3
    rw [if_neg e3] at hke;obtain ⟨g1,g2⟩:=hno (by rw [hke];exact e3);rw [g1,g2,hke];simp only [go_sem,seval,bne,q3];rfl
   have q3:(OE==0)=true:=by simpa using e3
   rw [if_pos e3] at hke;simp only [go_sem,seval,bne,q3];(with_reducible and_intros)<;>first|exact .dq|omega|skip
   refine aa.pure hSc ?_
   by_cases e4:SE=0
   case neg =>
    have q4:(SE==0)=false:=by simpa using e4
    obtain ⟨g1,g2⟩:=hno (by rw [hke];exact e4);rw [g1,g2,hke];simp only [go_sem,seval,bne,q4];rfl
   have q4:(SE==0)=true:=by simpa using e4
   rw [e4] at hke;have hst2:bU R++[[.str (B T)]]=bU (xR s (Q++xK w (c+1))):=by rw [happ,jC]
   simp only [go_sem,seval,bne,q4];(with_reducible and_intros)<;>first|exact .dq|omega|skip
   refine aa.pure i1 ?_;simp only [go_sem,seval];(with_reducible and_intros)<;>first|exact .dq|omega|skip
   refine aa.pure i2 ?_;simp only [go_sem,seval];(with_reducible and_intros)<;>first|exact .dq|omega|skip
   refine aa.pure i3 ?_;simp only [go_sem,seval];(with_reducible and_intros)<;>first|exact .dq|omega|skip
   refine aa.pure i4 ?_;simp only [go_sem,seval];(with_reducible and_intros)<;>first|exact .dq|omega|skip
   refine aa.pure i5 ?_;simp only [go_sem,seval];(with_reducible and_intros)<;>first|exact .dq|omega|skip
   refine aa.gen [] [] true (by simp) ?_;simp only [go_sem,seval,mL];refine aU.intro hJn ?_;simp only [go_sem,seval,hwc];(with_reducible and_intros)<;>first|exact .dq|omega|skip
   refine ah.step () hc ?_ ?_
   ·exact hyes hke
   simp only [go_sem,seval,hst2]
  ·intro _ _ hJ;have hdc:decide (((3:Nat):Int) < 3)=false:=by decide
   simp only [go_sem,seval,hdc,hwi];(with_reducible and_intros)<;>first|exact .dq|omega|skip
   refine ah.step () hi ?_ ?_
   ·intro q hq;rw [hst] at hq;rcases List.mem_append.1 hq with hq | hq
    ·exact hI q hq
    ·exact hJ q hq
   simp only [go_sem,seval,hst]
 ·intro _ hdx hI;rw [List.take_length] at hI;have e:=hE;rw [H8 hI] at e;rw [hL e,e];simp only [go_sem,seval,aJ,hdx,List.take_length]
theorem Hu (s:af) (hs:s.small) (hw:∀ m∈s.aj.ms,dj m.no):Abs.Spec Tryz.prog 19 [] [.agg s.cells] [] (.bI [.sl 1 (bU (Em s)),.int .i64 (yJ s)]):=by
 refine Spec.frozen (J4 s hs hw) [0] rfl ?_;intro r;rcases r with _ | r<;>rfl
open Go.Lib (itoa)
theorem QY (a b:List Int):jK (a++b)=jK a++jK b:=by simp [jK]
theorem aaA (k:Int):lR [1] k=(k==1):=by
 rw [Bool.eq_iff_iff];simp [lR];exact eq_comm
def sB (ms:List ak):List (Int × Int):=jK (pick (fun m:ak=>lR [1] m.state) ak.no ms)
theorem Jj {ms:List ak} {i:Nat} (hi:i < ms.length):sB (ms.take (i+1))=sB (ms.take i)++if (ms[i].state==1)=true then xK ms[i].no 3 else []:=by
 rw [sB,vI _ _ hi,QY,aaA];generalize (ms[i].state==1)=q;cases q<;>simp [sB,jK]
theorem Og {ms:List ak} {i:Nat} (hi:i < ms.length) (ha:(ms[i].state==1)=true) {c:Nat} (hc:c < 3):∃ b,sB ms=(sB (ms.take i)++xK ms[i].no c)++(ms[i].no,(c:Int)) :: b:=by
 obtain ⟨b,hb⟩:=Jr ms[i].no hc;have e:ms=ms.take (i+1)++ms.drop (i+1):=(List.take_append_drop ..).symm
 have e2:sB ms=sB (ms.take (i+1))++sB (ms.drop (i+1)):=by
  conv=>lhs;rw [e]
  rw [sB,pick,List.flatMap_append,QY];rfl
 refine ⟨b++sB (ms.drop (i+1)),?_⟩;rw [e2,Jj hi,if_pos ha,hb];simp
theorem JO (l:List aZ):Abs.Spec Tryz.prog 6 [] [.sl 17 (l.map aZ.cells)] [] (.bool true):=by
 have hwk:=nR;rcases Nat.lt_or_ge 1000 l.length with hlen | hlen
 ·have d:decide ((1000:Int) < (l.length:Int))=true:=decide_eq_true (by omega);refine bu 141 1 [.tmp 2] mixed Tryz.func6 ?_;simp only [go_sem,seval,aJ,d]
 have d:decide ((1000:Int) < (l.length:Int))=false:=decide_eq_false (by omega);have hG:=sP l hlen;obtain ⟨hf,hp⟩:=zC l;obtain ⟨s,hs⟩:=aH (Dm l);rw [<- hs] at hG hf;clear hs hp;have hrng:=hf.right.cU hf.last hf.fit;have hsm:=hf.good.small;have hgb:=hf.good.bs;have hgp:=hf.good.ps;have hgm:=hf.good.ms;have hfit:s.fit:=⟨hsm.aj.small,hsm.book,hsm.aW,hsm.ps⟩
 have hR:=Hu s hsm (fun m hm=>(hrng.ms m hm).1);have hM:=fun w c=>tN s.aj w c s.book.qs hsm.aj.small hsm.book.2
 have hS:=fun w c=>qD s w c hfit hrng (by omega) (by omega)
 have hno:∀ m∈s.aj.ms,dj m.no:=fun m hm=>(hrng.ms m hm).1
 have hL:yJ s=0->Em s=xR s (sB s.aj.ms):=fun h=>by rw [Em,if_pos h];rfl
 have hL0:yJ s≠0->Em s=[]:=fun h=>by rw [Em,if_neg h]
 clear hf hsm hfit hrng;simp only [af.cells,aq.cells] at hG hR hM hS;refine bu 141 1 [.tmp 2] mixed Tryz.func6 ?_;simp only [go_sem,seval,aJ,d];(with_reducible and_intros)<;>first|exact .dq|omega|skip
 refine aa.pure hG ?_;simp only [go_sem,seval];(with_reducible and_intros)<;>first|exact .dq|omega|skip
 refine aa.pure hR ?_;clear hG hR
 by_cases e0:yJ s=0
 case neg =>
  have q:(yJ s==0)=false:=by simpa using e0
  rw [hL0 e0];simp only [go_sem,seval,bne,q,gl,List.length_nil];(with_reducible and_intros)<;>first|exact .dq|omega|skip
  refine aa.pure hwk ?_;simp only [go_sem,seval]
 rw [hL e0,e0];have hsp:=fun {i:Nat} (hi:i < s.aj.ms.length) ha {c:Nat} hc=>Og hi ha (c:=c) hc
 have hst:=fun {i:Nat} (hi:i < s.aj.ms.length)=>Jj hi
 obtain ⟨L,hLd⟩:=aH (xR s (sB s.aj.ms))
 have hLl:L.length<=3*s.aj.ms.length:=by
  rw [hLd];have h1:=Qt s (sB s.aj.ms)
  have h2:(sB s.aj.ms).length<=3*s.aj.ms.length:=by
   rw [sB,PO];have:=bW (fun m:ak=>lR [1] m.state) ak.no s.aj.ms;omega
  omega
 rw [<- hLd];clear hL hL0;simp only [go_sem,seval];(with_reducible and_intros)<;>first|exact .dq|omega|skip
 refine aC.walk (S:=Unit) s.aj.ms.length [3,4] [64,416] (fun i _=>[(6,.int .i64 ((xR s (sB (s.aj.ms.take i))).length:Int)),(7,.int .i64 i)]) (fun _ _=>[]) (fun _ _=>True) () trivial ?_ ?_ ?_
 ·simp only [go_sem,seval]<;>simp [sB,pick,jK,xR]
 ·intro i _ hi hdi hwi _;have hm:=aG (c:=ak.cells) s.aj.ms hi;have hli:(i:Int) < (s.aj.ms.length:Int):=by omega
  have hst:=hst hi;have hsp:=fun ha {c:Nat} hc=>hsp hi ha (c:=c) hc
  have hn64:=hno _ (List.getElem_mem hi);obtain ⟨x,hx⟩:=aH (s.aj.ms[i]);simp only [<- hx] at hm hst hsp hn64;obtain ⟨Q,hQ⟩:=aH (sB (s.aj.ms.take i));rw [<- hQ] at hst |-;simp only [<- hQ] at hsp;simp only [ak.cells] at hm;clear hQ hx hno;cases q:x.state==1
  ·rw [q] at hst;simp only [fZ,if_false,List.append_nil] at hst;simp only [go_sem,seval,aJ,hdi];(with_reducible and_intros)<;>first|exact .dq|omega|skip
   refine aC.walk (S:=Unit) 0 [3,4,7] [64,416] (fun c _=>[(6,.int .i64 ((xR s Q).length:Int)),(8,.int .i64 c)]) (fun _ _=>[]) (fun _ _=>True) () trivial ?_ ?_ ?_
   ·simp only [go_sem,seval]<;>simp
   ·intro c _ hc _ _ _;omega
   ·intro _ _ _;simp only [go_sem,seval,aJ,hm,q,hwi];(with_reducible and_intros)<;>first|exact .dq|omega|skip
    refine ah.step () hi trivial ?_;simp only [go_sem,seval,hst]
  ·rw [q,if_pos rfl] at hst
   replace hsp:=fun {c:Nat} hc=>hsp q (c:=c) hc
   simp only [go_sem,seval,aJ,hdi];(with_reducible and_intros)<;>first|exact .dq|omega|skip
   refine aC.walk (S:=Unit) 3 [3,4,7] [64,416] (fun c _=>[(6,.int .i64 ((xR s (Q++xK x.no c)).length:Int)),(8,.int .i64 c)]) (fun _ _=>[]) (fun _ _=>True) () trivial ?_ ?_ ?_
   ·simp only [go_sem,seval]<;>simp [xK]
   ·intro c _ hc _ hwc _;have hdc:decide ((c:Int) < 3)=true:=decide_eq_true (by omega);have hci:dj (c:Int):=⟨by omega,by omega⟩
    obtain ⟨b,hb⟩:=hsp hc;have hMc:=hM x.no c;have hSc:=hS x.no c;have hts:=L2 x.no c;have hone:=Qn s (x.no,(c:Int))
    have hLs:L=xR s (Q++xK x.no c)++(xR s [(x.no,(c:Int))]++xR s b):=by
     rw [hLd,hb,Ea,show (x.no,(c:Int)) :: b=[(x.no,(c:Int))]++b from rfl,Ea s _ b]
    have happ:xR s (Q++xK x.no (c+1))=xR s (Q++xK x.no c)++xR s [(x.no,(c:Int))]:=by rw [hts,<- List.append_assoc,Ea]
    obtain ⟨R,hR⟩:=aH (xR s (Q++xK x.no c));rw [<- hR] at happ hLs |-;have n1:dj (P8 s (x.no,(c:Int))):=Ct (yA ..);have n2:dj (tG s.aW s.aj s.ps x.no c):=Ct (HY ..);have n3:dj (Hg s x.no c):=Ct (Ik ..);have hT:Wj s (x.no,(c:Int))=rkF s (x.no,(c:Int))++32 :: itoa (Hg s x.no c):=rfl
    have hF:rkF s (x.no,(c:Int))=(114 :: 105 :: 115 :: 107 :: 32 :: (itoa x.no++[32]++itoa c++[32]++itoa (P8 s (x.no,(c:Int)))++[32]))++itoa (tG s.aW s.aj s.ps x.no c):=by
     simp [rkF,dP]
    rw [show pI s.aj x.no c s.book.qs=P8 s (x.no,(c:Int)) from rfl] at hMc;obtain ⟨M,hMd⟩:=aH (P8 s (x.no,(c:Int)));rw [<- hMd] at hone n1 hMc hF;obtain ⟨SN,hSN⟩:∃ M,M=Hg s x.no c:=⟨_,rfl⟩
    rw [<- hSN] at n3 hSc hT;have k1:=fc _ hn64;have k2:=fc _ hci;have k3:=fc _ n1;have k4:=fc _ n2;have i1:=dA _ hn64;have i2:=dA _ hci;have i3:=dA _ n1;have v1:(itoa x.no++[32]++itoa c++[32]).length<=300:=by simp only [List.length_append,List.length_cons,List.length_nil];omega
    have v2:(itoa x.no++[32]++itoa c++[32]++itoa M).length<=300:=by simp only [List.length_append,List.length_cons,List.length_nil];omega
    obtain ⟨G,hGd⟩:=aH (114 :: 105 :: 115 :: 107 :: 32 :: (itoa x.no++[32]++itoa c++[32]++itoa M++[32]));have hGl:G.length<=200:=by rw [hGd];simp only [List.length_append,List.length_cons,List.length_nil];omega
    rw [<- hGd] at hF;obtain ⟨F,hFd⟩:=aH (rkF s (x.no,(c:Int)));rw [<- hFd] at hT hF;have hFl:F.length<=300:=by rw [hF,List.length_append];omega
    have hGF:G.length<=F.length:=by rw [hF,List.length_append];omega
    have hLs2:=Jh F SN n3 (by omega);rw [<- hT] at hLs2;have hex:(B F).extract 0 G.length=B G:=by rw [NK,hF];congr 1;simp
    have hlt:decide ((F.length:Int) < (G.length:Int))=false:=decide_eq_false (by omega);clear hM hS hsp hb hts hR hMd hSN hF hFd hLd n2 k4;simp only [go_sem,seval,aJ,hdc,hm,q];(with_reducible and_intros)<;>first|exact .dq|omega|skip
    refine aa.pure hMc ?_;simp only [go_sem,seval];(with_reducible and_intros)<;>first|exact .dq|omega|skip
    refine aa.pure hSc ?_
    by_cases e2:M=0
    ·have q2:(M==0)=true:=by simpa using e2
     rw [if_pos q2] at hone;rw [hone,List.append_nil] at happ;simp only [go_sem,seval,q2,hwc];(with_reducible and_intros)<;>first|exact .dq|omega|skip
     refine ah.step () hc trivial ?_;simp only [go_sem,seval,happ]
    have q2:(M==0)=false:=by simpa using e2
    rw [if_neg (by rw [q2];decide)] at hone;rw [hone] at happ hLs;have hRl:R.length < L.length:=by rw [hLs];simp
    have hat:(bU L).getD R.length []=[.str (B (Wj s (x.no,(c:Int))))]:=by
     rw [LN _ hRl]
     have:L[R.length]=Wj s (x.no,(c:Int)):=by
      simp only [hLs];rw [List.getElem_append_right (by omega)];simp
     rw [this]
    have hge:decide ((L.length:Int)<=(R.length:Int))=false:=decide_eq_false (by omega)
    have hwk1:IntKind.wrap .i64 ((R.length:Int)+1)=((xR s (Q++xK x.no (c+1))).length:Int):=by
     rw [happ,List.length_append,bn (by omega) (by omega)];simp
    obtain ⟨T,hTd⟩:=aH (Wj s (x.no,(c:Int)));rw [<- hTd] at hLs2 hat;clear hone happ hLs hTd hT;simp only [go_sem,seval,q2,gl,hge,Int.toNat_natCast,hat];(with_reducible and_intros)<;>first|exact .dq|omega|skip
    refine aa.pure hLs2 ?_;simp only [go_sem,seval];(with_reducible and_intros)<;>first|exact .dq|omega|skip
    refine aa.pure i1 ?_;simp only [go_sem,seval,mL,zz,eZ,List.cons_append,List.nil_append,List.length_append,List.length_cons,List.length_nil];(with_reducible and_intros)<;>first|exact .dq|omega|skip
    refine aa.pure i2 ?_;simp only [go_sem,seval,mL,zz,eZ,List.cons_append,List.nil_append,List.length_append,List.length_cons,List.length_nil];(with_reducible and_intros)<;>first|exact .dq|omega|skip
    refine aa.pure i3 ?_;simp only [go_sem,seval,mL,zz,List.cons_append,List.nil_append,<- hGd,eZ,Int.toNat_natCast,hlt,hex,beq_self_eq_true,hwk1,hwc];(with_reducible and_intros)<;>first|exact .dq|omega|skip
    refine ah.step () hc trivial ?_;simp only [go_sem,seval]
   ·intro _ _ _;have hdc:decide (((3:Nat):Int) < 3)=false:=by decide
    simp only [go_sem,seval,hdc,hwi];(with_reducible and_intros)<;>first|exact .dq|omega|skip
    refine ah.step () hi trivial ?_;simp only [go_sem,seval,hst]
 ·intro _ hdx _;rw [List.take_length,<- hLd];simp only [go_sem,seval,aJ,hdx,gl,beq_self_eq_true];(with_reducible and_intros)<;>first|exact .dq|omega|skip
  refine aa.pure hwk ?_;simp only [go_sem,seval]
end Go.Proofs.YtnkobepdbkmedaaGreatDoor
