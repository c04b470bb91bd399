/- Numbers read back, what is told of totals, and what follows. No theorem of a claim. -/
import Derived.Test.YtnkobepdbkmedaaGreatDoorKW
import Derived.Test.YtnkobepdbkmedaaGreatDoorKE
import Derived.Test.YtnkobepdbkmedaaGreatDoorKL
set_option linter.unusedSimpArgs false
set_option linter.unusedVariables false
set_option maxHeartbeats 4000000
set_option maxRecDepth 16000
namespace Go.Proofs.YtnkobepdbkmedaaGreatDoor
open Go.Abs
open Go.Lib (itoa decDigits)
theorem LS (n:Int) (h:dj n):Abs.Spec Tryz.prog 30 [] [.int .i64 n] [] (.str (B (itoa n))):=by
 have i:=dA n h;refine bu 5 1 [.tmp 2] mixed Tryz.func30 ?_;simp only [go_sem,seval];refine aa.pure i ?_;simp only [go_sem,seval]
theorem ID {D:List UInt8} {u:Nat} (hD:D=decDigits u) (hu:u<=9223372036854775808) {i:Nat} (hi:i < D.length) :
  IntKind.wrap .i64 (D[i].toNat:Int)=(D[i].toNat:Int)/\IntKind.wrap .i64 ((D[i].toNat:Int)-48)=((D[i].toNat-48:Nat):Int)/\decide (((D[i].toNat-48:Nat):Int) < 0)=false/\decide ((9:Int) < ((D[i].toNat-48:Nat):Int))=false /\
  IntKind.wrap .i64 (-9223372036854775808+((D[i].toNat-48:Nat):Int)) = -9223372036854775808+((D[i].toNat-48:Nat):Int) /\
  decide (-((pE (D.take i):Nat):Int) < (-9223372036854775808+((D[i].toNat-48:Nat):Int)).tdiv 10)=false /\
  IntKind.wrap .i64 ((-9223372036854775808+((D[i].toNat-48:Nat):Int)).tdiv 10)=(-9223372036854775808+((D[i].toNat-48:Nat):Int)).tdiv 10 /\
  IntKind.wrap .i64 (10 * -((pE (D.take i):Nat):Int)) = -((10*pE (D.take i):Nat):Int) /\
  IntKind.wrap .i64 (-((10*pE (D.take i):Nat):Int)-((D[i].toNat-48:Nat):Int)) = -((pE (D.take (i+1)):Nat):Int):=by
 have h1:=vB u D[i] (by rw [<- hD];exact List.getElem_mem hi);have h2:=IA D hi;have h3:=Rd D (i+1);rw [show pE D=u by rw [hD];exact uZ u] at h3;obtain ⟨d,hd⟩:=aH (D[i].toNat-48);rw [<- hd] at h2 |-;have h4:D[i].toNat=48+d:=by omega
 have h5:d<=9:=by omega
 obtain ⟨a,ha⟩:=aH (pE (D.take i));rw [<- ha] at h2 |-;rw [h2] at h3 |-;rw [h4];have h6:=VK (a:=a) (d:=d) (by omega) h5
 have h7:(-9223372036854775808+(d:Int)).tdiv 10 = -(((9223372036854775808-d) / 10:Nat):Int):=by
  rw [show (-9223372036854775808+(d:Int)) = -((9223372036854775808-d:Nat):Int) by omega,Int.neg_tdiv,Int.ofNat_tdiv];rfl
 refine ⟨bn (by omega) (by omega),?_,decide_eq_false (by omega),decide_eq_false (by omega),bn (by omega) (by omega),decide_eq_false h6,?_,?_,?_⟩
 ·rw [bn (by omega) (by omega)];omega
 ·rw [h7];exact bn (by omega) (by omega)
 ·rw [bn (by omega) (by omega)];omega
 ·rw [bn (by omega) (by omega)];omega
theorem Rv (u:Nat) (hu:u<=9223372036854775808):Abs.Spec Tryz.prog 29 [] [.str (B (45 :: decDigits u))] [] (.bI [.int .i64 (-(u:Int)),.bool true]):=by
 have hp:=QZ u;have hl:=zw 19 u (by omega) (by omega);have hv:=uZ u;have hf:=fun {i:Nat} hi=>ID (D:=decDigits u) rfl hu (i:=i) hi
 obtain ⟨D,hD⟩:=aH (decDigits u);rw [<- hD] at hp hl hv |-;rw [<- hD] at hf;have ha0:=O2 (45 :: D) 0 (by simp);have h45:((45:UInt8).toNat:Int)=45:=rfl;simp only [List.getElem_cons_zero] at ha0;have d0:decide ((0:Int) < ((D.length+1:Nat):Int))=true:=decide_eq_true (by omega);have d1:((1:Int)==((D.length+1:Nat):Int))=false:=by rw [beq_eq_false_iff_ne];omega
 refine bu 55 1 [.tmp 2,.tmp 3] mixed Tryz.func29 ?_;simp only [go_sem,seval,eZ,List.length_cons,d0,ha0,h45,d1];(with_reducible and_intros)<;>first|exact .dq|omega|skip
 refine aC.walk (S:=Unit) D.length [0,4] [160] (fun i _=>[(5,.int .i64 ((1+i:Nat):Int)),(6,.int .i64 (-((pE (D.take i):Nat):Int)))]) (fun _ _=>[]) (fun _ _=>True) () trivial ?_ ?_ ?_
 ·simp only [go_sem,seval]<;>simp [pE]
 ·intro i _ hi _ _ _;obtain ⟨f1,f2,f3,f4,f5,f6,f7,f8,f9⟩:=hf hi;have hat:=O2 (45 :: D) (1+i) (by simp;omega);rw [show (45 :: D)[1+i]'(by simp;omega)=D[i] by simp [Nat.add_comm 1 i]] at hat;have hdi:decide (((1+i:Nat):Int) < ((D.length+1:Nat):Int))=true:=decide_eq_true (by omega);have hw:IntKind.wrap .i64 (((1+i:Nat):Int)+1)=((1+(i+1):Nat):Int):=by rw [bn (by omega) (by omega)];omega
  have hlt:((1+i:Nat):Int) < ((D.length+1:Nat):Int):=by omega
  have h00:(0:Int)<=((1+i:Nat):Int):=by omega
  simp only [go_sem,seval,eZ,List.length_cons,hdi,Int.toNat_natCast,hat,f1,f2,f3,f4,f5,f6,f7,f8,f9,hw];(with_reducible and_intros)<;>first|exact .dq|omega|skip
  refine ah.step () hi trivial ?_;simp only [go_sem,seval]
 ·intro _ _ _;have hdx:decide (((1+D.length:Nat):Int) < ((D.length+1:Nat):Int))=false:=decide_eq_false (by omega);simp only [go_sem,seval,eZ,List.length_cons,hdx,List.take_length,hv];refine fu.id ?_;simp only [go_sem,seval]
theorem SK (u:Nat) (hu:u<=9223372036854775807):Abs.Spec Tryz.prog 29 [] [.str (B (decDigits u))] [] (.bI [.int .i64 (u:Int),.bool true]):=by
 have hp:=QZ u;have hl:=zw 19 u (by omega) (by omega);have hv:=uZ u;have hf:=fun {i:Nat} hi=>ID (D:=decDigits u) rfl (by omega) (i:=i) hi
 have hr0:=vB u (decDigits u)[0] (List.getElem_mem hp);obtain ⟨D,hD⟩:=aH (decDigits u);have ha0:=O2 (decDigits u) 0 hp;simp only [<- hD] at hp hl hv hf hr0 ha0 |-;have h45:((D[0].toNat:Int)==45)=false:=by rw [beq_eq_false_iff_ne];omega
 have d0:decide ((0:Int) < (D.length:Int))=true:=decide_eq_true (by omega);have d1:((0:Int)==(D.length:Int))=false:=by rw [beq_eq_false_iff_ne];omega
 refine bu 55 1 [.tmp 2,.tmp 3] mixed Tryz.func29 ?_;simp only [go_sem,seval,eZ,d0,ha0,h45,d1];(with_reducible and_intros)<;>first|exact .dq|omega|skip
 refine aC.walk (S:=Unit) D.length [0,4] [160] (fun i _=>[(5,.int .i64 (i:Int)),(6,.int .i64 (-((pE (D.take i):Nat):Int)))]) (fun _ _=>[]) (fun _ _=>True) () trivial ?_ ?_ ?_
 ·simp only [go_sem,seval]<;>simp [pE]
 ·intro i _ hi hdi hwi _;obtain ⟨f1,f2,f3,f4,f5,f6,f7,f8,f9⟩:=hf hi;have hat:=O2 D i hi;have hlt:(i:Int) < (D.length:Int):=by omega
  simp only [go_sem,seval,eZ,hdi,Int.toNat_natCast,hat,f1,f2,f3,f4,f5,f6,f7,f8,f9,hwi];(with_reducible and_intros)<;>first|exact .dq|omega|skip
  refine ah.step () hi trivial ?_;simp only [go_sem,seval]
 ·intro _ hdx _;have hq:(-(u:Int) == -9223372036854775808)=false:=by rw [beq_eq_false_iff_ne];omega
  have hw:IntKind.wrap .i64 (0 - -(u:Int))=(u:Int):=by rw [bn (by omega) (by omega)];omega
  simp only [go_sem,seval,eZ,hdx,List.take_length,hv];refine fu.id ?_;simp only [go_sem,seval,hq,hw]
theorem Pa (n:Int) (h:dj n):Abs.Spec Tryz.prog 29 [] [.str (B (itoa n))] [] (.bI [.int .i64 n,.bool true]):=by
 obtain ⟨h1,h2⟩:=h
 by_cases hn:n < 0
 ·obtain ⟨u,rfl⟩:∃ u:Nat,n = -(u:Int):=⟨n.natAbs,by omega⟩
  rw [Go.Lib.itoa_neg u (by omega)];exact Rv u (by omega)
 ·obtain ⟨u,rfl⟩:∃ u:Nat,n=(u:Int):=⟨n.toNat,by omega⟩
  rw [Go.Lib.itoa_nonneg];exact SK u (by omega)
theorem N2 (n:Int) (h:dj n):Abs.Spec Tryz.prog 14 [] [.str (B (itoa n))] [] (.bI [.int .i64 n,.bool true]):=by
 have h1:=Pa n h;have h2:=LS n h;have hl:=OG n h.1 h.2;obtain ⟨T,hT⟩:=aH (itoa n);rw [<- hT] at h1 h2 hl |-;have hd:decide ((20:Int) < (T.length:Int))=false:=decide_eq_false (by omega);refine bu 23 1 [.tmp 2,.tmp 3] mixed Tryz.func14 ?_;simp only [go_sem,seval,eZ,hd];(with_reducible and_intros)<;>first|exact .dq|omega|skip
 refine aa.pure h1 ?_;simp only [go_sem,seval];(with_reducible and_intros)<;>first|exact .dq|omega|skip
 refine aa.pure h2 ?_;simp only [go_sem,seval,beq_self_eq_true]
abbrev BX:List UInt8:=[116,111,116,97,108]
def kF (s:af) (c:Int) (k:Nat):Int:=az (ij c [(k:Int)+1] s.aW.bs)
def kL (s:af) (c:Int) (n:Nat):List Int:=(List.range n).map (kF s c)
theorem W3 (s:af) (c:Int) (n:Nat):kL s c (n+1)=kL s c n++[kF s c n]:=by simp [kL,List.range_succ]
def JJ (s:af) (c:Int):List UInt8:=BX++dP (c :: kL s c 6)
def Rz (s:af):Bool:=(List.range 3).all fun c=>(List.range 6).all fun k=>bL (kF s c k)
theorem aaL {s:af} {c k:Nat} (hc:c < 3) (hk:k < 6) (h:bL (kF s c k)=false):Rz s=false:=by
 cases q:Rz s
 ·rfl
 ·simp only [Rz,List.all_eq_true] at q;have:=q c (List.mem_range.2 hc) k (List.mem_range.2 hk);rw [h] at this;cases this
theorem VH {s:af} (h:Rz s=true) {c k:Nat} (hc:c < 3) (hk:k < 6):bL (kF s c k)=true:=by
 simp only [Rz,List.all_eq_true] at h;exact h c (List.mem_range.2 hc) k (List.mem_range.2 hk)
def zg (s:af) (n:Nat):List (List UInt8):=(List.range n).map fun (c:Nat)=>JJ s c
theorem Si (s:af) (n:Nat):zg s (n+1)=zg s n++[JJ s n]:=by simp [zg,List.range_succ]
theorem HI (s:af) (hr:s.cU) (hl:s.aW.bs.length < 2 ^ 30):Abs.Spec Tryz.prog 13 [] [.agg s.cells] [.own 1 (bU (if Rz s then zg s 3 else []))] (.bI [.ref 0,.int .i64 (if Rz s then 0 else 1)]):=by
 have hM:=fun c k=>DW s c [(k:Int)] hr hl (by simp)
 have hkr:∀ c k,bL (kF s c k)=true->dj (kF s c k):=fun c k h=>by
  have:=cg.1 h;exact ⟨by omega,by omega⟩
 have hno:=@aaL s;obtain ⟨f,hf⟩:∃ f:Int->Nat->Int,f=fun c k=>kF s c k:=⟨_,rfl⟩
 simp only [af.cells,ints,List.map_cons,List.map_nil] at hM |-;refine bu 41 1 [.tmp 2,.tmp 3] mixed Tryz.func13 ?_;simp only [go_sem,seval];(with_reducible and_intros)<;>first|exact .dq|omega|skip
 refine aC.walk (S:=Unit) 3 [1] [32] (fun i _=>[(10,.int .i64 i),(4,.ref 624)]) (fun i _=>[(624,.own 1 (bU (zg s i)))]) (fun i _=>∀ c < i,∀ k < 6,bL (kF s c k)=true) () (by intro c hc;omega) ?_ ?_ ?_
 ·simp only [go_sem,seval]<;>simp [zg,bU]
 ·intro i _ hi _ hwi hI;have hdi:decide ((i:Int) < 3)=true:=decide_eq_true (by omega);have hc:dj (i:Int):=⟨by omega,by omega⟩
  have hMi:=fun k=>hM i k
  have hst:=Si s i;have hln:(zg s i).length=i:=by simp [zg]
  obtain ⟨O,hO⟩:=aH (zg s i);rw [<- hO] at hst hln |-;clear hM hO;simp only [go_sem,seval,hdi];(with_reducible and_intros)<;>first|exact .dq|omega|skip
  refine aC.walk (S:=Unit) 6 [1,4,5,10] [32,624] (fun k _=>[(7,.int .i64 ((k:Int)+1)),(6,.ref 544)]) (fun k _=>[(544,.own 1 (ints ((i:Int) :: kL s i k)))]) (fun k _=>∀ j < k,bL (kF s i j)=true) () (by intro c hc;omega) ?_ ?_ ?_
  ·simp only [go_sem,seval]<;>simp [kL,ints]
  ·intro k _ hk _ _ hJ;have hdk:decide ((k:Int)+1<=6)=true:=decide_eq_true (by omega);have hw:IntKind.wrap .i64 ((k:Int)+1+1)=((k+1:Nat):Int)+1:=by rw [bn (by omega) (by omega)];omega
   have hMk:=hMi ((k:Int)+1);rw [show az (ij (i:Int) [(k:Int)+1] s.aW.bs)=kF s i k from rfl] at hMk;have hks:=W3 s i k;have hkl:(kL s i k).length=k:=by simp [kL]
   have hnk:=hno hi hk;obtain ⟨K,hK⟩:=aH (kL s i k);rw [<- hK] at hks hkl |-;have hiL:(ints ((i:Int) :: K)).length=k+1:=by simp [ints,hkl]
   have hki:ints ((i:Int) :: K)++[[.int .i64 (kF s i k)]]=ints ((i:Int) :: kL s i (k+1)):=by rw [hks];simp [ints]
   clear hK hMi hks;simp only [go_sem,seval,hdk];(with_reducible and_intros)<;>first|exact .dq|omega|skip
   refine aa.gen [] [] true (by simp) ?_;simp only [go_sem,seval];refine aU.intro hMk ?_;cases b:bL (kF s i k)
   ·have e:J5 (kF s i k)=1:=by simp [J5,b]
    have hz:=hnk b;rw [e,hz];simp only [go_sem,seval];rfl
   ·have e:J5 (kF s i k)=0:=by simp [J5,b]
    have e2:Pu (kF s i k)=kF s i k:=by simp [Pu,b]
    rw [e,e2];simp only [go_sem,seval,hw];(with_reducible and_intros)<;>first|exact .dq|omega|skip
    refine ah.step () hk (by
     intro j hj;rcases Nat.lt_or_ge j k with h | h
     ·exact hJ j h
     ·rw [show j=k by omega];exact b) ?_
    simp only [go_sem,seval,hki]
  ·intro _ _ hJ;have hdk:decide (((6:Nat):Int)+1<=6)=false:=by decide
   have hP:=kP BX ((i:Int) :: kL s i 6) (by decide) (by simp [kL]) (by
    intro n hn;rcases List.mem_cons.1 hn with rfl | hn
    ·exact hc
    ·obtain ⟨k,hk,rfl⟩:=List.mem_map.1 hn
     exact hkr _ _ (hJ k (List.mem_range.1 hk)))
   have hst2:bU O++[[.str (B (116 :: 111 :: 116 :: 97 :: 108 :: dP ((i:Int) :: kL s i 6)))]]=bU (zg s (i+1)):=by rw [hst,<- jC];rfl
   simp only [go_sem,seval,hdk];(with_reducible and_intros)<;>first|exact .dq|omega|skip
   refine aa.gen [] [] true (by simp) ?_;simp only [go_sem,seval,mL];refine aU.intro hP ?_;simp only [go_sem,seval,hwi];(with_reducible and_intros)<;>first|exact .dq|omega|skip
   refine ah.step () hi (by
    intro c hc k hk;rcases Nat.lt_or_ge c i with h | h
    ·exact hI c h k hk
    ·rw [show c=i by omega];exact hJ k hk) ?_
   simp only [go_sem,seval,hst2]
 ·intro _ _ hI;have hdx:decide (((3:Nat):Int) < 3)=false:=by decide
  have hz:Rz s=true:=by
   simp only [Rz,List.all_eq_true];exact fun c hc k hk=>hI c (List.mem_range.1 hc) k (List.mem_range.1 hk)
  rw [hz];simp only [go_sem,seval,hdx]
  all_goals simp
theorem GM (s:af) (hr:s.cU) (hl:s.aW.bs.length < 2 ^ 30):Abs.Spec Tryz.prog 13 [] [.agg s.cells] [] (.bI [.sl 1 (bU (if Rz s then zg s 3 else [])),.int .i64 (if Rz s then 0 else 1)]):=by
 refine Spec.frozen (HI s hr hl) [0] rfl ?_;intro r;rcases r with _ | r<;>rfl
open Go.Lib (itoa)
theorem Nc:∀ (ns:List Int) (w cur:List UInt8),(32:UInt8) ∉ w->Hf (w++dP ns) cur=(cur++w) :: ns.map itoa
 | [],w,cur,h=>by
  rw [show dP []=[] from rfl,List.append_nil,Gq _ _ h];rfl
 | n :: r,w,cur,h=>by
  rw [show dP (n :: r)=32 :: (itoa n++dP r) from rfl,oJ _ _ _ h,Nc r _ _ (vM n)];rfl
theorem VA (s:af) (c:Int):Hf (JJ s c) []=BX :: itoa c :: (kL s c 6).map itoa:=by
 rw [JJ,Nc _ _ _ (by decide)];rfl
theorem WK (s:af) (c:Int) {k:Nat} (hk:k < 6):(bU (BX :: itoa c :: (kL s c 6).map itoa)).getD (2+k) []=[.str (B (itoa (kF s c k)))]:=by
 have:k=0\/k=1\/k=2\/k=3\/k=4\/k=5:=by omega
 rcases this with rfl | rfl | rfl | rfl | rfl | rfl<;>rfl
theorem Xg (s:af) {c:Nat} (hc:c < 3):(bU (zg s 3)).getD c []=[.str (B (JJ s c))]:=by
 have:c=0\/c=1\/c=2:=by omega
 rcases this with rfl | rfl | rfl<;>rfl
theorem Pm (s:af) (c:Int) (h:∀ n∈c :: kL s c 6,dj n):(JJ s c).length<=1000:=by
 have:=lZ _ h;simp only [JJ,List.length_append,List.length_cons,List.length_nil] at this |-;have e:(kL s c 6).length=6:=by simp [kL]
 rw [e] at this;omega
theorem KB (c k:Int) (bs:List bC) {i:Nat} (hi:i < bs.length):az (ij c [k] (bs.take (i+1)))=if (bs[i].kind==k)=true then (if (bs[i].cur==c)=true then az (ij c [k] (bs.take i))+bs[i].sum else az (ij c [k] (bs.take i))) else az (ij c [k] (bs.take i)):=by
 rw [I5 _ _ _ hi,MB];cases q1:(bs[i].kind==k)
 ·have:decide (bs[i].kind=k)=false:=decide_eq_false (by simpa using q1);simp [this]
 ·have:decide (bs[i].kind=k)=true:=decide_eq_true (by simpa using q1);cases q2:(bs[i].cur==c)
  ·simp [this]
  ·simp [this,dX,az]
theorem BU (l:List aZ):Abs.Spec Tryz.prog 4 [] [.sl 17 (l.map aZ.cells)] [] (.bool true):=by
 have hwk:=nR;rcases Nat.lt_or_ge 1000 l.length with hlen | hlen
 ·have d:decide ((1000:Int) < (l.length:Int))=true:=decide_eq_true (by omega);refine bu 127 1 [.tmp 2] mixed Tryz.func4 ?_;simp only [go_sem,seval,aJ,d]
 have d:decide ((1000:Int) < (l.length:Int))=false:=decide_eq_false (by omega);have hG:=sP l hlen;obtain ⟨hf,hp⟩:=zC l;obtain ⟨s,hs⟩:=aH (Dm l);rw [<- hs] at hG hf;clear hs hp;have hrng:=hf.right.cU hf.last hf.fit;have hlb:=hf.right.lens.bs;have hR:=GM s hrng (by omega)
 have hsix:∀ c:Int,LG (kF s c) 6=0:=fun c=>by
  have h6:=PK c _ (Rw hf.right.aW);rw [IJ hf.right.aW c] at h6;have g0:az (ij c [1] s.aW.bs)=kF s c 0:=rfl;have g1:az (ij c [2] s.aW.bs)=kF s c 1:=rfl;have g2:az (ij c [3] s.aW.bs)=kF s c 2:=rfl;have g3:az (ij c [4] s.aW.bs)=kF s c 3:=rfl;have g4:az (ij c [5] s.aW.bs)=kF s c 4:=rfl;have g5:az (ij c [6] s.aW.bs)=kF s c 5:=rfl;rw [g0,g1,g2,g3,g4,g5] at h6;simp only [LG];omega
 have hok:=fun (h:Rz s=true)=>@VH s h
 have hat:=fun (c:Nat) (hc:c < 3)=>Xg s hc
 have hl3:(zg s 3).length=3:=by simp [zg]
 simp only [af.cells] at hG hR;refine bu 127 1 [.tmp 2] mixed Tryz.func4 ?_;simp only [go_sem,seval,aJ,d];(with_reducible and_intros)<;>first|exact .dq|omega|skip
 refine aa.pure hG ?_;simp only [go_sem,seval];(with_reducible and_intros)<;>first|exact .dq|omega|skip
 refine aa.pure hR ?_;clear hG hR;cases hz:Rz s
 ·simp only [fZ,if_false];simp only [go_sem,seval];(with_reducible and_intros)<;>first|exact .dq|omega|skip
  refine aa.pure hwk ?_;simp only [go_sem,seval]
 have hok:=fun {c k:Nat} hc hk=>hok hz (c:=c) (k:=k) hc hk
 obtain ⟨L,hL⟩:=aH (zg s 3);rw [<- hL] at hl3 hat |-;clear hz hL;simp only [if_true];simp only [go_sem,seval,gl,hl3];(with_reducible and_intros)<;>first|exact .dq|omega|skip
 refine aC.walk (S:=Unit) 3 [3,4] [64,352] (fun c _=>[(6,.int .i64 c)]) (fun _ _=>[]) (fun _ _=>True) () trivial ?_ ?_ ?_
 ·simp only [go_sem,seval]<;>simp
 ·intro c _ hc _ hwc _;have hdi:decide ((c:Int) < 3)=true:=decide_eq_true (by omega);have hci:dj (c:Int):=⟨by omega,by omega⟩
  have hat:=hat c hc;have hkr:∀ k,k < 6->dj (kF s c k):=fun k hk=>by have:=cg.1 (hok hc hk);exact ⟨by omega,by omega⟩
  have hW:=Gm (JJ s c) (by
   have:=Pm s c (by
    intro n hn;rcases List.mem_cons.1 hn with rfl | hn
    ·exact hci
    ·obtain ⟨k,hk,rfl⟩:=List.mem_map.1 hn
     exact hkr _ (List.mem_range.1 hk))
   omega)
  rw [VA] at hW;have hwat:=fun {k:Nat} hk=>WK s (c:Int) (k:=k) hk
  have h6:=hsix c;have hK:∀ k,k < 6->bL (kF s c k)=true:=fun k hk=>hok hc hk
  obtain ⟨W,hWd⟩:=aH (bU (BX :: itoa c :: (kL s c 6).map itoa));have hW0:W.getD 0 []=[.str (B BX)]:=by rw [hWd];rfl
  have hW1:W.getD 1 []=[.str (B (itoa c))]:=by rw [hWd];rfl
  have hWl:W.length=8:=by rw [hWd,gl];simp [kL]
  rw [<- hWd] at hW;simp only [<- hWd] at hwat;obtain ⟨T,hT⟩:=aH (JJ s c);rw [<- hT] at hat hW;have ic:=dA (c:Int) hci;have hlt:(c:Int) < 3:=by omega
  clear hWd hT hsix hok;simp only [go_sem,seval,hdi,Int.toNat_natCast,gl,hl3,hat];(with_reducible and_intros)<;>first|exact .dq|omega|skip
  refine aa.pure hW ?_;simp only [go_sem,seval,hWl,hW0,mL,beq_self_eq_true,hW1];(with_reducible and_intros)<;>first|exact .dq|omega|skip
  refine aa.pure ic ?_;simp only [go_sem,seval,hWl,hW0,hW1,mL,beq_self_eq_true];(with_reducible and_intros)<;>first|exact .dq|omega|skip
  refine aC.walk (S:=Unit) 6 [3,4,6,7] [64,352,720] (fun k _=>[(8,.int .i64 (IntKind.wrap .i64 (LG (kF s c) k))),(9,.int .i64 ((k:Int)+1))]) (fun _ _=>[]) (fun _ _=>True) () trivial ?_ ?_ ?_
  ·have hk0:IntKind.wrap .i64 (LG (kF s c) 0)=0:=rfl;simp only [go_sem,seval,hk0]<;>simp
  ·intro k _ hk _ _ _;have hdk:decide ((k:Int)+1<=6)=true:=decide_eq_true (by omega);have hw:IntKind.wrap .i64 ((k:Int)+1+1)=((k+1:Nat):Int)+1:=by rw [bn (by omega) (by omega)];omega
   have hix:IntKind.wrap .i64 (1+((k:Int)+1))=((2+k:Nat):Int):=by rw [bn (by omega) (by omega)];omega
   have hlt2:((2+k:Nat):Int) < 8:=by omega
   have h00:(0:Int)<=((2+k:Nat):Int):=by omega
   have hN:=N2 (kF s c k) (hkr k hk);have hwk:=hwat hk;have hkk:=cg.1 (hK k hk);have hwf:IntKind.wrap .i64 (kF s c k)=kF s c k:=bn (by omega) (by omega);have hst:IntKind.wrap .i64 (IntKind.wrap .i64 (LG (kF s c) k)+kF s c k)=IntKind.wrap .i64 (LG (kF s c) (k+1)):=wrap_add _ _;have hfd:kF s c k=az (ij c [(k:Int)+1] s.aW.bs):=rfl;obtain ⟨F,hF⟩:=aH (kF s c k);rw [<- hF] at hN hwk hwf hst hfd;obtain ⟨K,hKd⟩:=aH ((k:Int)+1);rw [<- hKd] at hdk hw hix hfd |-;simp only [go_sem,seval,hdk,hix,hWl,Int.toNat_natCast,hwk];(with_reducible and_intros)<;>first|exact .dq|omega|skip
   refine aa.pure hN ?_;simp only [go_sem,seval];(with_reducible and_intros)<;>first|exact .dq|omega|skip
   refine aC.walk (S:=Unit) s.aW.bs.length [3,4,6,7,8,9,10,11] [64,352,720,1168] (fun j _=>[(12,.int .i64 (IntKind.wrap .i64 (az (ij c [K] (s.aW.bs.take j))))),(13,.int .i64 j)]) (fun _ _=>[]) (fun _ _=>True) () trivial ?_ ?_ ?_
   ·simp only [go_sem,seval]<;>simp [ij,az]<;>rfl
   ·intro j _ hj hdj hwj _;have hm:=aG (c:=bC.cells) s.aW.bs hj;have hs:=KB (c:Int) K s.aW.bs hj;have hlj:(j:Int) < (s.aW.bs.length:Int):=by omega
    obtain ⟨x,hx⟩:=aH (s.aW.bs[j]);rw [<- hx] at hm hs;obtain ⟨M,hM⟩:=aH (az (ij c [K] (s.aW.bs.take j)));rw [<- hM] at hs |-;have hwa:IntKind.wrap .i64 (IntKind.wrap .i64 M+x.sum)=IntKind.wrap .i64 (M+x.sum):=wrap_add _ _;simp only [bC.cells] at hm;clear hx hM hfd;cases q1:x.kind==K
    ·rw [if_neg (by rw [q1];decide)] at hs;simp only [go_sem,seval,aJ,hdj,hm,q1,hwj];(with_reducible and_intros)<;>first|exact .dq|omega|skip
     refine ah.step () hj trivial ?_;simp only [go_sem,seval,hs]
    ·rw [if_pos q1] at hs;cases q2:x.cur==(c:Int)
     ·rw [if_neg (by rw [q2];decide)] at hs;simp only [go_sem,seval,aJ,hdj,hm,q1,q2,hwj];(with_reducible and_intros)<;>first|exact .dq|omega|skip
      refine ah.step () hj trivial ?_;simp only [go_sem,seval,hs]
     ·rw [if_pos q2] at hs;simp only [go_sem,seval,aJ,hdj,hm,q1,q2,hwj,hwa];(with_reducible and_intros)<;>first|exact .dq|omega|skip
      refine ah.step () hj trivial ?_;simp only [go_sem,seval,hs]
   ·intro _ hdx _;simp only [go_sem,seval,aJ,hdx,List.take_length,<- hfd,hwf,beq_self_eq_true,hst,hw];(with_reducible and_intros)<;>first|exact .dq|omega|skip
    refine ah.step () hk trivial ?_;simp only [go_sem,seval]
  ·intro _ _ _;have hdx:decide (((6:Nat):Int)+1<=6)=false:=by decide
   have hz:IntKind.wrap .i64 (LG (kF s c) 6)=0:=by rw [h6];rfl
   simp only [go_sem,seval,hdx,hz,hwc];(with_reducible and_intros)<;>first|exact .dq|omega|skip
   refine ah.step () hc trivial ?_;simp only [go_sem,seval]
 ·intro _ _ _;have hdx:decide (((3:Nat):Int) < 3)=false:=by decide
  simp only [go_sem,seval,hdx];(with_reducible and_intros)<;>first|exact .dq|omega|skip
  refine aa.pure hwk ?_;simp only [go_sem,seval]
end Go.Proofs.YtnkobepdbkmedaaGreatDoor
