/- Texts: numbers as text, words, and what follows. No theorem of a claim. -/
import Derived.Test.YtnkobepdbkmedaaGreatDoorKA
import Derived.Lib.ItoaLen
import Derived.Lib.ItoaMem
import Derived.Lib.Strings
import Derived.Test.YtnkobepdbkmedaaGreatDoorKD
import Derived.Test.YtnkobepdbkmedaaGreatDoorShelf
import Derived.Test.YtnkobepdbkmedaaGreatDoorAbcLib
import Derived.Lib.AppendIntMem
import Derived.Test.YtnkobepdbkmedaaGreatDoorKE
set_option linter.unusedSimpArgs false
set_option linter.unusedVariables false
set_option maxHeartbeats 4000000
set_option maxRecDepth 16000
namespace Go.Proofs.YtnkobepdbkmedaaGreatDoor
open Go.Abs
open Go.Lib (itoa decDigits)
def B (l:List UInt8):ByteArray:=⟨l.toArray⟩
theorem mL (l:List UInt8):ByteArray.mk l.toArray=B l:=rfl
theorem XL (l:List UInt8):(B l).toList=l:=by
 rw [Go.Lib.toList_data];rfl
theorem zz (a b:List UInt8):B a++B b=B (a++b):=by
 apply ByteArray.ext;simp [B]
theorem eZ (l:List UInt8):(B l).size=l.length:=rfl
theorem NK (l:List UInt8) (i j:Nat):(B l).extract i j=B ((l.drop i).take (j-i)):=by
 apply ByteArray.ext;simp [B]
theorem O2 (l:List UInt8) (i:Nat) (h:i < l.length):(Option.map (fun x:UInt8=>(x.toNat:Int)) (B l)[i]?).getD 0=(l[i].toNat:Int):=by
 have:(B l)[i]?=some l[i]:=by
  rw [getElem?_pos _ _ (by exact h)];rfl
 rw [this];rfl
theorem vB:∀ u:Nat,∀ b∈decDigits u,48<=b.toNat/\b.toNat<=57:=by
 intro u
 induction u using Nat.strongRecOn with
 | _ u ih =>
  intro b hb;rw [decDigits] at hb;split at hb
  ·obtain rfl:=List.mem_singleton.1 hb;rw [UInt8.toNat_ofNat'];omega
  ·rcases List.mem_append.1 hb with hb | hb
   ·exact ih _ (by omega) b hb
   ·obtain rfl:=List.mem_singleton.1 hb;rw [UInt8.toNat_ofNat'];omega
theorem vM (n:Int):(32:UInt8) ∉ itoa n:=by
 intro h;unfold itoa at h;split at h
 ·rcases List.mem_cons.1 h with h | h
  ·cases h
  ·have:=vB _ _ h;simp at this
 ·have:=vB _ _ h;simp at this
def Hf:List UInt8->List UInt8->List (List UInt8)
 | [],cur=>[cur]
 | b :: r,cur=>if b=32 then cur :: Hf r [] else Hf r (cur++[b])
theorem oJ:∀ (a r cur:List UInt8),(32:UInt8) ∉ a->Hf (a++32 :: r) cur=(cur++a) :: Hf r []
 | [],r,cur,_=>by simp [Hf]
 | b :: a,r,cur,h=>by
  have hb:b≠32:=fun e=>h (by simp [e])
  have ha:(32:UInt8) ∉ a:=fun e=>h (by simp [e])
  simp only [List.cons_append,Hf,if_neg hb];rw [oJ a r _ ha];simp
theorem Gq:∀ (a cur:List UInt8),(32:UInt8) ∉ a->Hf a cur=[cur++a]
 | [],cur,_=>by simp [Hf]
 | b :: a,cur,h=>by
  have hb:b≠32:=fun e=>h (by simp [e])
  have ha:(32:UInt8) ∉ a:=fun e=>h (by simp [e])
  simp only [Hf,if_neg hb];rw [Gq a _ ha];simp
def dP (ns:List Int):List UInt8:=ns.flatMap fun n=>32 :: itoa n
theorem lZ:∀ (ns:List Int),(∀ n∈ns,-9223372036854775808<=n/\n<=9223372036854775807)->(dP ns).length<=22*ns.length
 | [],_=>by simp [dP]
 | n :: r,h=>by
  have h1:=Go.Lib.itoa_length_le n (h n (by simp)).1 (h n (by simp)).2;have h2:=lZ r fun x hx=>h x (by simp [hx])
  simp only [dP,List.flatMap_cons,List.length_append,List.length_cons] at h2 |-;omega
open Go.Lib (itoa decDigits)
def bU (l:List (List UInt8)):List (List D):=l.map fun s=>[.str (B s)]
@[go_sem] theorem gl (l:List (List UInt8)):(bU l).length=l.length:=by simp [bU]
theorem LN (l:List (List UInt8)) {i:Nat} (hi:i < l.length):(bU l).getD i []=[.str (B l[i])]:=by
 simp [bU,hi]
theorem jC (l:List (List UInt8)) (x:List UInt8):bU (l++[x])=bU l++[[.str (B x)]]:=by simp [bU]
theorem fc (n:Int) (h:dj n):(itoa n).length<=21:=Go.Lib.itoa_length_le n h.1 h.2
theorem Oh (ns:List Int) {i:Nat} (hi:i < ns.length):dP (ns.take (i+1))=dP (ns.take i)++32 :: itoa ns[i]:=by
 rw [List.take_succ_eq_append_getElem hi,dP,List.flatMap_append];simp [dP]
theorem dA (n:Int) (h:dj n):Abs.Spec Tryz.prog 9 [] [.int .i64 n] [] (.str (B (itoa n))):=by
 refine Spec.Ar ⟨_,Tryz.func9,rfl,rfl⟩ ?_ (by simp [D.names]);intro w l0 S0 vs hT hlev hsz hr
 obtain ⟨v0,rfl⟩:∃ v0,vs = #[v0]:=by
  obtain ⟨l⟩:=vs
  match l,hsz with
  | [a],_=>exact ⟨a,rfl⟩
 obtain rfl:=(hr 0 v0 _ rfl rfl).dw;refine (Tryz.strconv_Itoa n h.1 h.2 w ?_).mono ?_
 ·obtain ⟨E,x,hh⟩:=hT (0,.u64,Go.Lib.pow10Tab) (List.mem_singleton.2 rfl);have hh:w.heap[0]?=some (.cells (Go.Lib.pow10Tab.map fun n=>Value.int .u64 n).toArray E x):=hh
  show World.var? _ _ _=_
  unfold World.var?;rw [show Tryz.prog.globalNamed "internal/strconv.uint64pow10" = some 0 from by kernel_rfl];simp only [Option.bind_some, hh]
 ·rintro e w' ⟨rfl,k,os,rfl⟩
  exact ⟨_,rfl,Go.Lib.below_grow _ w (Nat.le_refl _) k os,.str _⟩
theorem kP (w:List UInt8) (ns:List Int) (hw:w.length<=1000) (hn:ns.length<=100) (h:∀ n∈ns,dj n):Abs.Spec Tryz.prog 24 [] [.str (B w),.sl 1 (ints ns)] [] (.str (B (w++dP ns))):=by
 refine bu 20 2 [.tmp 4] mixed Tryz.func24 ?_;simp only [go_sem,seval,av];refine aC.walk (S:=Unit) ns.length [7,8] [144] (fun i _=>[(0,.str (B (w++dP (ns.take i)))),(9,.int .i64 i)]) (fun _ _=>[]) (fun _ _=>True) () trivial ?_ ?_ ?_
 ·simp only [go_sem,seval]<;>simp [dP]
 ·intro i _ hi hdi hwi _;have hm:=ints_at ns hi;have hN:=h _ (List.getElem_mem hi);have hI:=dA ns[i] hN;have h1:=fc _ hN;have h2:=lZ (ns.take i) fun x hx=>h x (List.mem_of_mem_take hx)
  have h3:(ns.take i).length<=100:=by simp;omega
  have hli:(i:Int) < (ns.length:Int):=by omega
  have hs:w++dP (ns.take i)++32 :: itoa ns[i]=w++dP (ns.take (i+1)):=by rw [Oh ns hi];simp
  have hz:([32]++itoa ns[i]).length<=22:=by simp;omega
  have hz2:(w++dP (ns.take i)).length<=4000:=by rw [List.length_append];omega
  obtain ⟨T,hT⟩:=aH (w++dP (ns.take i));rw [<- hT] at hs hz2 |-;clear hT h2 h3;simp only [go_sem,seval,av,hdi,hm];(with_reducible and_intros)<;>first|exact .dq|omega|skip
  refine aa.pure hI ?_;simp only [go_sem,seval,mL,zz,eZ,hwi,hs,List.length_cons,List.length_nil];(with_reducible and_intros)<;>first|exact .dq|omega|skip
  refine ah.step () hi trivial ?_;simp only [go_sem,seval,List.cons_append,List.nil_append,hs]
 ·intro _ hdx _;simp only [go_sem,seval,hdx,List.take_length]
theorem aaR (l:List UInt8) {i f:Nat} (hi:i < l.length) (hf:f<=i):Hf (l.drop i) ((l.drop f).take (i-f))=if l[i]=32 then (l.drop f).take (i-f) :: Hf (l.drop (i+1)) [] else Hf (l.drop (i+1)) ((l.drop f).take (i+1-f)):=by
 have hd:l.drop i=l[i] :: l.drop (i+1):=List.drop_eq_getElem_cons hi
 have ht:(l.drop f).take (i+1-f)=(l.drop f).take (i-f)++[l[i]]:=by
  rw [show i+1-f=(i-f)+1 by omega,List.take_succ_eq_append_getElem (by simp;omega)];simp [show f+(i-f)=i by omega]
 rw [hd,Hf,ht]
theorem SW (l:List UInt8) (hl:l.length<=2 ^ 40):Abs.Spec Tryz.prog 11 [] [.str (B l)] [.own 1 (bU (Hf l []))] (.ref 0):=by
 refine bu 32 1 [.tmp 2] mixed Tryz.func11 ?_;simp only [go_sem,seval];refine aC.walk (S:=Nat × List (List UInt8)) (l.length+1) [0] [] (fun i s=>[(3,.ref 464),(4,.int .i64 s.1),(5,.int .i64 i)]) (fun i s=>[(464,.own 1 (bU s.2))]) (fun i s=>s.1<=i/\s.2.length<=i/\(i<=l.length->s.2++Hf (l.drop i) ((l.drop s.1).take (i-s.1))=Hf l [])/\(i=l.length+1->s.2=Hf l [])) (0,[]) ⟨Nat.le_refl _,Nat.le_refl _,by simp,by simp⟩ ?_ ?_ ?_
 ·simp only [go_sem,seval]<;>simp [bU]
 ·intro i s hi _ _ hI;obtain ⟨f,out⟩:=s;obtain ⟨h1,h2,h3,_⟩:=hI;simp only at h1 h2 h3;have h3:=h3 (by omega);have hdi:decide ((i:Int)<=(l.length:Int))=true:=decide_eq_true (by omega);have hwi:IntKind.wrap .i64 ((i:Int)+1)=((i+1:Nat):Int):=by rw [bn (by omega) (by omega)];omega
  have hx:((i:Int).toNat-(f:Int).toNat)=i-f:=by omega
  simp only [go_sem,seval,eZ,hdi];(with_reducible and_intros)<;>first|exact .dq|omega|skip
  by_cases hz:i=l.length
  ·have q:((i:Int)==(l.length:Int))=true:=by rw [beq_iff_eq];omega
   have hs:=h3;rw [hz,List.drop_length,Hf,<- hz] at hs;simp only [go_sem,seval,eZ,q,NK,hwi];(with_reducible and_intros)<;>first|exact .dq|omega|skip
   refine ah.step (i+1,out++[(l.drop f).take (i-f)]) hi ?_ ?_
   ·exact ⟨by omega,by simp;omega,fun h=>by omega,fun _=>hs⟩
   simp only [go_sem,seval,jC,Int.toNat_natCast]
  ·have q:((i:Int)==(l.length:Int))=false:=by rw [beq_eq_false_iff_ne];omega
   have hil:i < l.length:=by omega
   have hat:=O2 l i hil;have hs:=aaR l hil h1;rw [hs] at h3
   by_cases hb:l[i]=32
   ·rw [if_pos hb] at h3;rw [hb,show (((32:UInt8).toNat:Nat):Int)=32 from rfl] at hat;simp only [go_sem,seval,eZ,q,hat,NK,hwi,Int.toNat_natCast];(with_reducible and_intros)<;>first|exact .dq|omega|skip
    refine ah.step (i+1,out++[(l.drop f).take (i-f)]) hi ?_ ?_
    ·exact ⟨by omega,by simp;omega,fun h=>by simpa using h3,fun h=>by omega⟩
    simp only [go_sem,seval,jC,Int.toNat_natCast]
   ·rw [if_neg hb] at h3
    have hq:(((l[i].toNat:Nat):Int)==32)=false:=by
     rw [beq_eq_false_iff_ne];intro h;apply hb;apply UInt8.toNat_inj.1;show l[i].toNat=32;omega
    simp only [go_sem,seval,eZ,q,hat,hq,hwi,Int.toNat_natCast];(with_reducible and_intros)<;>first|exact .dq|omega|skip
    refine ah.step (f,out) hi ?_ ?_
    ·exact ⟨by show f<=i+1;omega,by show out.length<=i+1;omega,fun _=>h3,fun h=>by omega⟩
    simp only [go_sem,seval]
 ·intro s hdx hI;obtain ⟨f,out⟩:=s;obtain ⟨_,h2,_,h4⟩:=hI;have h4:=h4 rfl;simp only at h4 h2;subst h4;have hdi:decide (((l.length+1:Nat):Int)<=(l.length:Int))=false:=decide_eq_false (by omega);simp only [go_sem,seval,eZ,hdi]
theorem Gm (l:List UInt8) (hl:l.length<=2 ^ 40):Abs.Spec Tryz.prog 11 [] [.str (B l)] [] (.sl 1 (bU (Hf l []))):=by
 refine Spec.frozen (SW l hl) [0] rfl ?_;intro r;rcases r with _ | r<;>rfl
open Go.Lib (itoa)
theorem Oc (l:List (List UInt8)):bU l=strs (l.map B):=by simp [bU,strs]
theorem Ip (xs:List (List UInt8)) (sep:List UInt8) (hne:xs≠[]) (hl:xs.length<=100) (hz:(Go.Lib.join xs sep).length<=10000):Abs.Spec Tryz.prog 40 [] [.sl 1 (bU xs),.str (B sep)] [] (.str (B (Go.Lib.join xs sep))):=by
 rw [Oc];refine Spec.Ar ⟨_,Tryz.func40,rfl,rfl⟩ ?_ (by simp [D.names]);intro w l0 S0 vs _ hlev hsz hr
 obtain ⟨v0,v1,rfl⟩:∃ v0 v1,vs = #[v0,v1]:=by
  obtain ⟨l⟩:=vs
  match l,hsz with
  | [a,b],_=>exact ⟨a,b,rfl⟩
 obtain ⟨bk,o,c,rfl,hc,hlt,hcell⟩:=SF (hr 0 v0 _ rfl rfl) (by simpa using hne);obtain rfl:=(hr 1 v1 _ rfl rfl).jA;have e:(xs.map B).map (·.data.toList)=xs:=by rw [List.map_map];exact List.map_id' xs
 have e2:(B sep).data.toList=sep:=rfl;have hJ:=Tryz.strings_Join bk o c (xs.map B) (B sep) w hcell hlt (by simp;omega) hc (by rw [e,e2];omega);rw [e,e2] at hJ;refine hJ.mono ?_
 rintro e w' ⟨rfl,hb⟩
 exact ⟨_,rfl,hb,.str _⟩
def rE (k:Int):List UInt8:=if k=1 then [98,97,110,107] else if k=2 then [99,97,115,104] else if k=3 then [102,117,110,100] else if k=4 then [115,107,105,110] else if k=5 then [118,97,114] else if k=6 then [108,111,115,115] else []
theorem Q8 (k:Int):(rE k).length<=4:=by unfold rE;(repeat' split)<;>simp
theorem Rs (k:Nat) (hk:k < 7):Abs.Spec Tryz.prog 61 [] [.int .i64 k] [] (.str (B (rE k))):=by
 refine bu 6 1 [.tmp 2] mixed Tryz.func61 ?_;simp only [go_sem,seval];refine ⟨by omega,?_⟩;have:k=0\/k=1\/k=2\/k=3\/k=4\/k=5\/k=6:=by omega
 rcases this with rfl | rfl | rfl | rfl | rfl | rfl | rfl<;>simp only [go_sem,seval]<;>rfl
def CT (x:aD):List (List UInt8):=if owned x.kind then [rE x.kind,itoa x.who,itoa x.cur] else [rE x.kind,itoa x.cur]
def iQ (x:aD):List UInt8:=Go.Lib.join (CT x) [46]
theorem zM (x:aD):iQ x=if owned x.kind then rE x.kind++([46]++itoa x.who++([46]++itoa x.cur)) else rE x.kind++([46]++itoa x.cur):=by
 unfold iQ CT;split<;>simp [Go.Lib.join_cons,Go.Lib.joinTail]
theorem BL (x:aD) (h1:dj x.who) (h2:dj x.cur):(iQ x).length<=100:=by
 have a:=fc _ h1;have b:=fc _ h2;have c:=Q8 x.kind;rw [zM];split<;>simp only [List.length_append,List.length_cons,List.length_nil]<;>omega
theorem xx (x:aD) (hr:x.right=true) (hk:0<=x.kind/\x.kind < 7) (h1:dj x.who) (h2:dj x.cur):Abs.Spec Tryz.prog 31 [] [.agg x.cells] [] (.bI [.str (B (iQ x)),.int .i64 0]):=by
 have hR:=lH x;rw [hr] at hR;obtain ⟨k,hkd⟩:∃ k:Nat,x.kind=k:=⟨x.kind.toNat,by omega⟩
 have hW:=Rs k (by omega);have hJ:=Ip (CT x) [46] (by unfold CT;split<;>simp) (by unfold CT;split<;>simp) (by have:=BL x h1 h2;unfold iQ at this;omega);have hO:=Gn k;have i1:=dA _ h1;have i2:=dA _ h2;have e:iQ x=Go.Lib.join (CT x) [46]:=rfl;rw [e];clear e;obtain ⟨J,hJd⟩:=aH (Go.Lib.join (CT x) [46]);rw [<- hJd] at hJ |-;simp only [CT,hkd] at hJ;simp only [aD.cells,hkd] at hR |-;clear hJd;refine bu 28 1 [.tmp 2,.tmp 3] mixed Tryz.func31 ?_;simp only [go_sem,seval];(with_reducible and_intros)<;>first|exact .dq|omega|skip
 refine aa.pure hR ?_;simp only [go_sem,seval];(with_reducible and_intros)<;>first|exact .dq|omega|skip
 refine aa.pure hW ?_;simp only [go_sem,seval];(with_reducible and_intros)<;>first|exact .dq|omega|skip
 refine aa.pure hO ?_;cases q:owned (k:Int)
 ·rw [q] at hJ;simp only [fZ,if_false,bU,List.map_cons,List.map_nil] at hJ;simp only [go_sem,seval];(with_reducible and_intros)<;>first|exact .dq|omega|skip
  refine aa.pure i2 ?_;simp only [go_sem,seval];(with_reducible and_intros)<;>first|exact .dq|omega|skip
  refine aa.gen [] [] true (by simp) ?_;simp only [go_sem,seval,mL];refine aU.intro hJ ?_;simp only [go_sem,seval]
 ·rw [q] at hJ;simp only [if_true,bU,List.map_cons,List.map_nil] at hJ;simp only [go_sem,seval];(with_reducible and_intros)<;>first|exact .dq|omega|skip
  refine aa.pure i1 ?_;simp only [go_sem,seval];(with_reducible and_intros)<;>first|exact .dq|omega|skip
  refine aa.pure i2 ?_;simp only [go_sem,seval];(with_reducible and_intros)<;>first|exact .dq|omega|skip
  refine aa.gen [] [] true (by simp) ?_;simp only [go_sem,seval,mL];refine aU.intro hJ ?_;simp only [go_sem,seval]
def tF (bs:List bC):List (List UInt8):=bs.map fun b=>iQ b.bB++dP [b.sum]
theorem SS (bs:List bC) {i:Nat} (hi:i < bs.length):tF (bs.take (i+1))=tF (bs.take i)++[iQ bs[i].bB++dP [bs[i].sum]]:=by
 rw [List.take_succ_eq_append_getElem hi,tF,List.map_append];rfl
theorem D0 (s:af) (hl:s.aW.bs.length < 2 ^ 30) (hb:∀ b∈s.aW.bs,b.bB.right=true/\(0<=b.kind/\b.kind < 7)/\b.cU):Abs.Spec Tryz.prog 15 [] [.agg s.cells,.nil] [.own 1 (bU (tF s.aW.bs))] (.ref 0):=by
 simp only [af.cells];refine bu 48 2 [.tmp 4] mixed Tryz.func15 ?_;simp only [go_sem,seval];(with_reducible and_intros)<;>first|exact .dq|omega|skip
 refine aC.walk (S:=Unit) s.aW.bs.length [1,12,13] [48,224] (fun i _=>[(14,.int .i64 i),(5,.ref 736)]) (fun i _=>[(736,.own 1 (bU (tF (s.aW.bs.take i))))]) (fun _ _=>True) () trivial ?_ ?_ ?_
 ·simp only [go_sem,seval]<;>simp [bU,tF]
 ·intro i _ hi hdi hwi _;have hm:=aG (c:=bC.cells) s.aW.bs hi;obtain ⟨h1,h2,h3⟩:=hb _ (List.getElem_mem hi);have hN:=xx s.aW.bs[i].bB h1 h2 h3.2.1 h3.2.2.1;have hs:=SS s.aW.bs hi;have hnl:=BL s.aW.bs[i].bB h3.2.1 h3.2.2.1;have hP:=kP (iQ s.aW.bs[i].bB) [s.aW.bs[i].sum] (by omega) (by simp) (by intro n hn;obtain rfl:=List.mem_singleton.1 hn;exact h3.2.2.2);have hli:(i:Int) < (s.aW.bs.length:Int):=by omega
  have hal:(tF (s.aW.bs.take i)).length=i:=by simp [tF];omega
  simp only [bC.bB,aD.cells,bC.cells,ints,List.map_cons,List.map_nil] at hm hN hP hs;obtain ⟨N,hNd⟩:=aH (iQ ⟨s.aW.bs[i].kind,s.aW.bs[i].who,s.aW.bs[i].cur⟩);rw [<- hNd] at hN hP hs;obtain ⟨x,hx⟩:=aH (s.aW.bs[i]);rw [<- hx] at hm hN hP hs;obtain ⟨C,hC⟩:=aH (tF (s.aW.bs.take i));rw [<- hC] at hs hal |-;clear hNd hx hC hnl h1 h2 h3;simp only [go_sem,seval,aJ,hdi,hm];(with_reducible and_intros)<;>first|exact .dq|omega|skip
  refine aa.pure hN ?_;simp only [go_sem,seval,hwi];(with_reducible and_intros)<;>first|exact .dq|omega|skip
  refine aa.gen [] [] true (by simp) ?_;simp only [go_sem,seval,mL];refine aU.intro hP ?_;simp only [go_sem,seval,hwi];(with_reducible and_intros)<;>first|exact .dq|omega|skip
  refine ah.step () hi trivial ?_;simp only [go_sem,seval,hs,jC]
 ·intro _ hdx _;simp only [go_sem,seval,aJ,hdx,List.take_length]
theorem rD (s:af) (hl:s.aW.bs.length < 2 ^ 30) (hb:∀ b∈s.aW.bs,b.bB.right=true/\(0<=b.kind/\b.kind < 7)/\b.cU):Abs.Spec Tryz.prog 15 [] [.agg s.cells,.nil] [] (.sl 1 (bU (tF s.aW.bs))):=by
 refine Spec.frozen (D0 s hl hb) [0] rfl ?_;intro r;rcases r with _ | r<;>rfl
theorem nR:Abs.Spec Tryz.prog 10 [] [] [] (.bool true):=by
 have hA:=rD ⟨0,0,0,⟨[],[],[]⟩,⟨0,[],[]⟩,⟨0,[⟨2,1,0,5⟩]⟩,[],[],[],[]⟩ (by decide) (by
  intro b hb;obtain rfl:=List.mem_singleton.1 hb
  exact ⟨rfl,⟨by decide,by decide⟩,⟨by decide,by decide⟩,⟨by decide,by decide⟩,⟨by decide,by decide⟩,⟨by decide,by decide⟩⟩)
 have one:∀ k:Nat,k < 10->itoa (k:Int)=[UInt8.ofNat (48+k)]:=fun k hk=>by rw [Go.Lib.itoa_nonneg,Go.Lib.decDigits_one hk]
 have i0:itoa 0=[48]:=one 0 (by decide);have i1:itoa 1=[49]:=one 1 (by decide);have i5:itoa 5=[53]:=one 5 (by decide)
 have e:tF [⟨2,1,0,5⟩]=[[99,97,115,104,46,49,46,48,32,53]]:=by
  simp only [tF,List.map_cons,List.map_nil,zM,bC.bB,dP,List.flatMap_cons,List.flatMap_nil,i0,i1,i5];rfl
 rw [e] at hA;simp only [af.cells,List.map_cons,List.map_nil,bC.cells,bU,pl] at hA
 replace hA:=Spec.Vy hA (ds':=[.agg [.int .i64 0,.int .i64 0,.int .i64 0,.nil,.nil,.nil,.int .i64 0,.nil,.nil,.int .i64 0,.sl 4 [[.int .i64 2,.int .i64 1,.int .i64 0,.int .i64 5]],.nil,.nil,.nil,.nil],.nil]) (by simp [mW,jG])
 refine bu 17 0 [.tmp 0] mixed Tryz.func10 ?_;simp only [go_sem,seval];(with_reducible and_intros)<;>first|exact .dq|omega|skip
 refine aa.gen [80] [] false (by simp) ?_;simp only [go_sem,seval];refine aU.intro hA ?_;simp only [go_sem,seval,mL,beq_self_eq_true]
open Go.Lib (itoa decDigits)
def pE (l:List UInt8):Nat:=l.foldl (fun a b=>10*a+(b.toNat-48)) 0
theorem NG (l:List UInt8) (b:UInt8):pE (l++[b])=10*pE l+(b.toNat-48):=by
 simp [pE]
theorem IA (l:List UInt8) {i:Nat} (hi:i < l.length):pE (l.take (i+1))=10*pE (l.take i)+(l[i].toNat-48):=by
 rw [List.take_succ_eq_append_getElem hi,NG]
theorem Rd (l:List UInt8) (i:Nat):pE (l.take i)<=pE l:=by
 have h:∀ k,i+k<=l.length->pE (l.take i)<=pE (l.take (i+k)):=by
  intro k
  induction k with
  | zero=>intro _;exact Nat.le_refl _
  | succ k ih =>
   intro h;have:=IA l (i:=i+k) (by omega);have:=ih (by omega);rw [<- Nat.add_assoc];omega
 rcases Nat.lt_or_ge l.length i with g | g
 ·rw [List.take_of_length_le (by omega)];exact Nat.le_refl _
 ·have:=h (l.length-i) (by omega)
  rwa [show i+(l.length-i)=l.length by omega,List.take_length] at this
theorem uZ:∀ u:Nat,pE (decDigits u)=u:=by
 intro u
 induction u using Nat.strongRecOn with
 | _ u ih =>
  rw [decDigits];split
  ·simp [pE,UInt8.toNat_ofNat'];omega
  ·rw [NG,ih _ (by omega),UInt8.toNat_ofNat'];omega
theorem zw:∀ (k u:Nat),0 < k->u < 10 ^ k->(decDigits u).length<=k
 | 0,_,h,_=>by omega
 | 1,u,_,h=>by rw [decDigits,dif_pos (by simpa using h)];simp
 | k+2,u,_,h=>by
  rw [decDigits];split
  ·simp
  ·rw [List.length_append,List.length_singleton];have:=zw (k+1) (u / 10) (by omega) (by rw [Nat.pow_succ] at h;omega);omega
theorem QZ (u:Nat):0 < (decDigits u).length:=by
 rw [decDigits];split<;>simp
theorem OG (n:Int) (h0:-9223372036854775808<=n) (h1:n<=9223372036854775807):(itoa n).length<=20:=by
 unfold itoa;split
 ·have:=zw 19 n.natAbs (by omega) (by omega);simp;omega
 ·have:=zw 19 n.toNat (by omega) (by omega);omega
theorem GI {a b:Int} (h:itoa a=itoa b):a=b:=by
 have ne:∀ (u:Nat) (r:List UInt8),decDigits u≠45 :: r:=by
  intro u r e;have hm:(45:UInt8)∈decDigits u:=by rw [e];simp
  have h:∀ u:Nat,∀ b∈decDigits u,48<=b.toNat:=by
   intro u
   induction u using Nat.strongRecOn with
   | _ u ih =>
    intro b hb;rw [decDigits] at hb;split at hb
    ·obtain rfl:=List.mem_singleton.1 hb;rw [UInt8.toNat_ofNat'];omega
    ·rcases List.mem_append.1 hb with hb | hb
     ·exact ih _ (by omega) b hb
     ·obtain rfl:=List.mem_singleton.1 hb;rw [UInt8.toNat_ofNat'];omega
  have:=h u _ hm;simp at this
 have inj:∀ u v:Nat,decDigits u=decDigits v->u=v:=fun u v e=>by rw [<- uZ u,<- uZ v,e]
 unfold itoa at h;split at h<;>split at h
 ·have:=inj _ _ (List.cons.inj h).2;omega
 ·exact absurd h.symm (ne _ _)
 ·exact absurd h (ne _ _)
 ·have:=inj _ _ h;omega
theorem VK {a d:Nat} (h:10*a+d<=9223372036854775808) (hd:d<=9):¬ (-(a:Int) < (-9223372036854775808+(d:Int)).tdiv 10):=by
 have e:(-9223372036854775808+(d:Int)).tdiv 10 = -(((9223372036854775808-d) / 10:Nat):Int):=by
  rw [show (-9223372036854775808+(d:Int)) = -((9223372036854775808-d:Nat):Int) by omega,Int.neg_tdiv,Int.ofNat_tdiv];rfl
 rw [e];omega
end Go.Proofs.YtnkobepdbkmedaaGreatDoor
