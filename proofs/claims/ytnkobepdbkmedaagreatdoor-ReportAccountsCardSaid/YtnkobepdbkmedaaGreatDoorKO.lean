/- Numbers as text, read by the library, and what follows. No theorem of a claim. -/
import Derived.Test.YtnkobepdbkmedaaGreatDoorKW
import Derived.Lib.AtoiAll
import Derived.Test.YtnkobepdbkmedaaGreatDoorKK
import Derived.Test.YtnkobepdbkmedaaGreatDoorShelfA
import Derived.Test.YtnkobepdbkmedaaGreatDoorKL
set_option linter.unusedSimpArgs false
set_option linter.unusedVariables false
set_option maxHeartbeats 4000000
set_option maxRecDepth 16000
namespace Go.Proofs.YtnkobepdbkmedaaGreatDoor
open Go.Abs
open Go.Lib (itoa decDigits parseUint10 parseMag atoiAll)
theorem TL (b:UInt8):∀ (l:List UInt8) (a v:Nat),parseUint10 a l=.ok v->parseUint10 a (l++[b])=parseUint10 v [b]
 | [],a,v,h=>by
  simp only [parseUint10] at h
  injection h with h
  rw [h];rfl
 | c :: r,a,v,h=>by
  rw [parseUint10] at h;rw [List.cons_append,parseUint10];split at h
  ·rename_i hc;rw [if_pos hc];split at h
   ·cases h
   ·rename_i h1;rw [if_neg h1];split at h
    ·cases h
    ·rename_i h2;rw [if_neg h2];exact TL b r _ _ h
  ·cases h
theorem TM:∀ u:Nat,u < 18446744073709551616->parseUint10 0 (decDigits u)=.ok u:=by
 intro u
 induction u using Nat.strongRecOn with
 | _ u ih =>
  intro h
  have one:∀ a d:Nat,d < 10->a*10+d < 18446744073709551616->parseUint10 a [UInt8.ofNat (48+d)]=.ok (a*10+d):=by
   intro a d hd ha;have e:(UInt8.ofNat (48+d)).toNat=48+d:=by rw [UInt8.toNat_ofNat'];omega
   simp only [parseUint10,e];rw [if_pos (by omega),if_neg (by omega),if_neg (by omega)];congr 1;omega
  rw [decDigits];split
  ·rename_i h1;have:=one 0 u h1 (by omega);simpa using this
  ·rw [TL _ _ _ _ (ih (u / 10) (by omega) (by omega)),one _ _ (by omega) (by omega)];congr 1;omega
theorem Iv (u:Nat):∃ c r,decDigits u=c :: r/\48<=c.toNat/\c.toNat<=57:=by
 induction u using Nat.strongRecOn with
 | _ u ih =>
  rw [decDigits];split
  ·exact ⟨_,[],rfl,by rw [UInt8.toNat_ofNat'];omega,by rw [UInt8.toNat_ofNat'];omega⟩
  ·obtain ⟨c,r,e,h⟩:=ih (u / 10) (by omega);exact ⟨c,r++_,by rw [e];rfl,h⟩
theorem SM (n:Int) (h0:-9223372036854775808<=n) (h1:n<=9223372036854775807):atoiAll (itoa n)=.ok n:=by
 by_cases hn:n < 0
 ·obtain ⟨u,rfl⟩:∃ u:Nat,n = -(u:Int):=⟨n.natAbs,by omega⟩
  rw [Go.Lib.itoa_neg u (by omega)];obtain ⟨c,r,e,hc⟩:=Iv u;have hp:=TM u (by omega)
  have hm:parseMag (decDigits u)=.ok u:=by
   unfold parseMag;rw [if_neg (by rw [e];simp)];exact hp
  have e45:(45:UInt8).toNat=45:=rfl;simp only [atoiAll,e45,or_true,if_true,hm];rw [if_neg (by simp),if_neg (by omega)]
 ·obtain ⟨u,rfl⟩:∃ u:Nat,n=(u:Int):=⟨n.toNat,by omega⟩
  rw [Go.Lib.itoa_nonneg];obtain ⟨c,r,e,hc⟩:=Iv u;have hp:=TM u (by omega)
  have hm:parseMag (c :: r)=.ok u:=by
   unfold parseMag;rw [if_neg (by simp),<- e];exact hp
  rw [e];simp only [atoiAll];rw [if_neg (by omega),hm];simp only;rw [if_neg (by omega),if_neg (by omega),if_neg (by omega)]
open Go.Lib (itoa)
theorem Kc {s:UInt8}:∀ {a b r t:List UInt8},s ∉ a->s ∉ b->a++s :: r=b++s :: t->a=b/\r=t
 | [],[],_,_,_,_,h=>by simp at h;exact ⟨rfl,h⟩
 | [],y :: b,_,_,_,hb,h=>by
  simp only [List.nil_append,List.cons_append,List.cons.injEq] at h;exact absurd (by simp [h.1]) hb
 | x :: a,[],_,_,ha,_,h=>by
  simp only [List.nil_append,List.cons_append,List.cons.injEq] at h;exact absurd (by simp [h.1]) ha
 | x :: a,y :: b,_,_,ha,hb,h=>by
  simp only [List.cons_append,List.cons.injEq] at h;have:=Kc (s:=s) (a:=a) (b:=b) (fun e=>ha (by simp [e])) (fun e=>hb (by simp [e])) h.2;exact ⟨by rw [h.1,this.1],this.2⟩
theorem I9 (n:Int):(46:UInt8) ∉ itoa n:=by
 intro h;unfold itoa at h;split at h
 ·rcases List.mem_cons.1 h with h | h
  ·cases h
  ·have:=vB _ _ h;simp at this
 ·have:=vB _ _ h;simp at this
theorem M5 (k:Int):(46:UInt8) ∉ rE k:=by unfold rE;(repeat' split)<;>simp
theorem RA {a b:Int} (ha:1<=a/\a<=6) (hb:1<=b/\b<=6) (h:rE a=rE b):a=b:=by
 rcases (by omega:a=1\/a=2\/a=3\/a=4\/a=5\/a=6) with rfl | rfl | rfl | rfl | rfl | rfl<;>rcases (by omega:b=1\/b=2\/b=3\/b=4\/b=5\/b=6) with rfl | rfl | rfl | rfl | rfl | rfl<;>first | rfl | exact absurd h (by decide)
theorem SZ {x y:aD} (hx:x.right=true) (hy:y.right=true) (h:iQ x=iQ y):x=y:=by
 have rx:=jx hx;have ry:=jx hy
 have ux:owned x.kind=false->x.who=0:=fun q=>by
  unfold aD.right at hx;simp_all
 have uy:owned y.kind=false->y.who=0:=fun q=>by
  unfold aD.right at hy;simp_all
 rw [zM,zM] at h;obtain ⟨k,w,c⟩:=x;obtain ⟨k',w',c'⟩:=y;simp only at h ux uy rx ry
 have e:rE k=rE k':=by
  split at h<;>split at h<;>simp only [List.append_assoc,List.singleton_append,List.cons_append,List.nil_append] at h<;>exact (Kc (M5 k) (M5 k') h).1
 obtain rfl:=RA (by omega) (by omega) e;cases q:owned k
 ·rw [q] at h;simp only [fZ,if_false,List.append_cancel_left_eq] at h;rw [GI h,ux q,uy q]
 ·rw [q] at h;simp only [if_true,List.append_cancel_left_eq,List.append_assoc,List.singleton_append,List.cons_append,List.nil_append,List.cons.injEq,true_and] at h;obtain ⟨h1,h2⟩:=Kc (I9 w) (I9 w') h;rw [GI h1,GI h2]
theorem Ra (n:Int) (h:dj n):Abs.Spec Tryz.prog 33 [] [.str (B (itoa n))] [] (.bI [.int .i64 n,.eH]):=by
 refine Spec.Ar ⟨_,Tryz.func33,rfl,rfl⟩ ?_ (by simp [D.names,D.cq]);intro w l0 S0 vs _ hlev hsz hr
 obtain ⟨v0,rfl⟩:∃ v0,vs = #[v0]:=by
  obtain ⟨l⟩:=vs
  match l,hsz with
  | [a],_=>exact ⟨a,rfl⟩
 obtain rfl:=(hr 0 v0 _ rfl rfl).jA;have hl:=fc n h;refine (Tryz.strconv_Atoi_ok (B (itoa n)) (by rw [eZ];omega) n (SM n h.1 h.2) w).mono ?_
 rintro e w' ⟨rfl,hw⟩
 refine ⟨_,rfl,?_,.bI _ _ rfl ?_⟩
 ·rcases hw with rfl | ⟨t,rfl⟩
  ·exact Go.RowKit.Below.refl _ _
  ·exact Go.Lib.bytesWorld_below ..
 ·intro i v d hv hd
  match i,hv,hd with
  | 0,hv,hd=>simp at hv hd;subst hv;subst hd;exact .int _ _
  | 1,hv,hd=>simp at hv hd;subst hv;subst hd;exact .eH
  | i+2,hv,hd=>simp at hv
theorem Jh (a:List UInt8) (n:Int) (h:dj n) (ha:a.length<=1000):Abs.Spec Tryz.prog 16 [] [.str (B (a++32 :: itoa n))] [] (.bI [.str (B a),.int .i64 n,.bool true]):=by
 have hA:=Ra n h;have hl:=fc n h;have hno:=vM n;obtain ⟨b,hb⟩:=aH (itoa n);rw [<- hb] at hA hl hno |-
 have hat:∀ i (hi:i < b.length),(Option.map (fun x:UInt8=>(x.toNat:Int)) (B (a++32 :: b))[a.length+b.length-i]?).getD 0=((b[b.length-1-i]'(by omega)).toNat:Int)/\(((b[b.length-1-i]'(by omega)).toNat:Int)==32)=false:=by
  intro i hi;constructor
  ·rw [O2 _ _ (by simp;omega)];congr 1;rw [List.getElem_append_right (by omega)];have:a.length+b.length-i-a.length=(b.length-1-i)+1:=by omega
   simp only [this,List.getElem_cons_succ]
  ·rw [beq_eq_false_iff_ne];intro e;have:(b[b.length-1-i]'(by omega))=32:=UInt8.toNat_inj.1 (show _=32 by omega);exact hno (this ▸ List.getElem_mem _)
 have h32:(Option.map (fun x:UInt8=>(x.toNat:Int)) (B (a++32 :: b))[a.length]?).getD 0=32:=by
  rw [O2 _ _ (by simp)];simp
 have hex:(B (a++32 :: b)).extract (a.length+1) (a++32 :: b).length=B b:=by
  rw [NK];congr 1;rw [show a++32 :: b=(a++[32])++b by simp,List.drop_left' (by simp),List.take_of_length_le (by simp;omega)]
 have hex2:(B (a++32 :: b)).extract 0 a.length=B a:=by
  rw [NK];congr 1;simp
 have hL:(a++32 :: b).length=a.length+b.length+1:=by simp;omega
 obtain ⟨T,hT⟩:=aH (a++32 :: b);rw [<- hT] at hat h32 hex hex2 hL |-;have hw0:IntKind.wrap .i64 ((T.length:Int)-1)=((a.length+b.length:Nat):Int):=by rw [bn (by omega) (by omega)];omega
 refine bu 33 1 [.tmp 2,.tmp 3,.tmp 4] mixed Tryz.func16 ?_;simp only [go_sem,seval,eZ,hw0];(with_reducible and_intros)<;>first|exact .dq|omega|skip
 refine aC.walk (S:=Unit) b.length [0] [] (fun i _=>[(5,.int .i64 ((a.length+b.length-i:Nat):Int))]) (fun _ _=>[]) (fun _ _=>True) () trivial ?_ ?_ ?_
 ·simp only [go_sem,seval]<;>simp
 ·intro i _ hi _ _ _;obtain ⟨g1,g2⟩:=hat i hi;have hdi:decide ((0:Int)<=((a.length+b.length-i:Nat):Int))=true:=decide_eq_true (by omega);have hlt:((a.length+b.length-i:Nat):Int) < (T.length:Int):=by omega
  have h00:(0:Int)<=((a.length+b.length-i:Nat):Int):=by omega
  have hw:IntKind.wrap .i64 (((a.length+b.length-i:Nat):Int)-1)=((a.length+b.length-(i+1):Nat):Int):=by rw [bn (by omega) (by omega)];omega
  simp only [go_sem,seval,eZ,hdi,Int.toNat_natCast,g1,g2,hw];(with_reducible and_intros)<;>first|exact .dq|omega|skip
  refine ah.step () hi trivial ?_;simp only [go_sem,seval]
 ·intro _ _ _;have e:a.length+b.length-b.length=a.length:=by omega
  rw [e];have hdi:decide ((0:Int)<=(a.length:Int))=true:=decide_eq_true (by omega);have hlt:(a.length:Int) < (T.length:Int):=by omega
  have h00:(0:Int)<=(a.length:Int):=by omega
  have hw:IntKind.wrap .i64 ((a.length:Int)+1)=((a.length+1:Nat):Int):=by rw [bn (by omega) (by omega)];omega
  have hle:((a.length+1:Nat):Int)<=(T.length:Int):=by omega
  simp only [go_sem,seval,eZ,hdi,Int.toNat_natCast,h32,hw,hex,hex2];(with_reducible and_intros)<;>first|exact .dq|omega|skip
  refine aa.pure hA ?_;simp only [go_sem,seval,eZ,Int.toNat_natCast,hex2,Nat.sub_zero];(with_reducible and_intros)<;>first|exact .dq|omega|skip
  kernel_rfl
theorem SP:Abs.Spec Tryz.prog 34 [] [.sl 1 [[.int .i64 1],[.int .i64 2],[.int .i64 3],[.int .i64 4],[.int .i64 5],[.int .i64 6]]] [.own 3 (gv.map aD.cells)] (.ref 0):=by
 obtain ⟨ks,hks⟩:=aH ([1,2,3,4,5,(6:Int)]);have hl:ks.length=6:=by rw [hks];rfl
 have he:([[.int .i64 1],[.int .i64 2],[.int .i64 3],[.int .i64 4],[.int .i64 5],[.int .i64 6]]:List (List D))=ints ks:=by rw [hks];rfl
 have hin:∀ i:Nat,i < 6->lR ks ((i:Int)+1)=true:=fun i hi=>by
  rw [hks];simp only [lR,List.any_cons,List.any_nil,Bool.or_eq_true,beq_iff_eq];omega
 rw [he];clear he hks;refine bu 50 1 [.tmp 2] mixed Tryz.func34 ?_;simp only [go_sem,seval];refine aC.walk (S:=Unit) 6 [0] [] (fun i _=>[(4,.int .i64 ((i:Int)+1)),(3,.ref 768)]) (fun i _=>[(768,.own 3 ((tX i).map aD.cells))]) (fun _ _=>True) () trivial ?_ ?_ ?_
 ·simp only [go_sem,seval]<;>simp [tX]
 ·intro k _ hk _ _ _;have hd:decide ((k:Int)+1<=6)=true:=decide_eq_true (by omega);have hwk:IntKind.wrap .i64 ((k:Int)+1+1)=((k+1:Nat):Int)+1:=by rw [bn (by omega) (by omega)];omega
  obtain ⟨K,hK⟩:=aH ((k:Int)+1);have hnext:tX (k+1)=tX k++sG k 17:=nW _ k;have hlen:=F9 k;rw [<- hK] at hd hwk |-;simp only [go_sem,seval,hd,av,hl];refine aC.walk (S:=Unit) 6 [0,3,4,15,16] [272,768] (fun j _=>[(17,.int .i64 j),(5,.bool (lR (ks.take j) K))]) (fun _ _=>[]) (fun _ _=>True) () trivial ?_ ?_ ?_
  ·simp only [go_sem,seval]<;>simp [lR]
  ·intro j _ hj hdj hwj _;have hj':j < ks.length:=by omega
   have hst:=vg ks K hj';have hdj:decide ((j:Int) < 6)=true:=hdj;cases hb:lR (ks.take j) K
   ·rw [hb,Bool.false_or] at hst;simp only [go_sem,seval,av,hl,hdj,ints_at ks hj',hwj];(with_reducible and_intros)<;>first|exact .dq|omega|skip
    refine ah.step () hj trivial ?_;simp only [go_sem,seval,hst]
   ·rw [hb,Bool.true_or] at hst;simp only [go_sem,seval,av,hl,hdj,ints_at ks hj',hwj];(with_reducible and_intros)<;>first|exact .dq|omega|skip
    refine ah.step () hj trivial ?_;simp only [go_sem,seval,hst]
  intro _ hdj _;have hdj:decide ((6:Int) < 6)=false:=hdj;have hy:lR (ks.take 6) K=true:=by rw [<- hl,List.take_length,hK];exact hin k hk
  rw [hy];simp only [go_sem,seval,av,hl,hdj];refine aC.walk (S:=Unit) 17 [0,4,5] [] (fun j _=>[(8,.int .i64 j),(3,.ref 768)]) (fun j _=>[(768,.own 3 ((tX k++sG k j).map aD.cells))]) (fun _ _=>True) () trivial ?_ ?_ ?_
  ·simp only [go_sem,seval]<;>simp [sG]
  ·intro w _ hw hdw hww _;have hdw:decide ((w:Int)<=16)=true:=decide_eq_true (by omega);have hnw:sG k (w+1)=sG k w++tE k w 3:=nW _ w;have hlw:=EO k w;simp only [go_sem,seval,hdw];refine aC.walk (S:=Unit) 3 [0,4,5,8] [] (fun j _=>[(35,.int .i64 j),(3,.ref 768)]) (fun j _=>[(768,.own 3 ((tX k++sG k w++tE k w j).map aD.cells))]) (fun _ _=>True) () trivial ?_ ?_ ?_
   ·simp only [go_sem,seval]<;>simp [tE]
   ·intro c _ hc hdc hwc _;have hdc:decide ((c:Int) < 3)=true:=hdc;have hnc:tE k w (c+1)=tE k w c++acc k w c:=nW _ c;have hlc:=GR k w c;have hR:=lH ⟨K,w,c⟩;simp only [aD.cells] at hR;simp only [acc,<- hK] at hnc;simp only [go_sem,seval,hdc];(with_reducible and_intros)<;>first|exact .dq|omega|skip
    refine aa.pure hR ?_;cases hb:aD.right ⟨K,w,c⟩
    ·rw [hb] at hnc;simp only [go_sem,seval,hwc];refine ah.step () hc trivial ?_;simp only [go_sem,seval,hnc]<;>simp
    ·rw [hb] at hnc;simp only [go_sem,seval,hwc,aJ,List.length_append];(with_reducible and_intros)<;>first|exact .dq|omega|skip
     refine ah.step () hc trivial ?_;simp only [go_sem,seval,hnc]<;>simp [aD.cells]
   ·intro _ hdc _;have hdc:decide ((3:Int) < 3)=false:=hdc;simp only [go_sem,seval,hdc,hww];refine ah.step () hw trivial ?_;simp only [go_sem,seval,hnw]<;>simp
  ·intro _ _ _;simp only [go_sem,seval,hwk];refine ah.step () hk trivial ?_;simp only [go_sem,seval,hnext]<;>simp
 ·intro _ _ _;simp only [go_sem,seval,gv]
theorem Oo (x:aD) (hx:x.right=true):Abs.Spec Tryz.prog 17 [] [.str (B (iQ x))] [] (.bI [.agg x.cells,.int .i64 0]):=by
 have hA:=SP;have hmem:=qV.2 hx;have hle:=tY;have hall:∀ y∈gv,y.right=true:=fun y hy=>qV.1 hy
 have hinj:=fun (y:aD) (hy:y.right=true) (h:iQ y=iQ x)=>SZ hy hx h
 obtain ⟨L,hL⟩:=aH (gv);obtain ⟨T,hT⟩:=aH (iQ x);rw [<- hL] at hA hmem hle;simp only [<- hL] at hall;simp only [<- hT] at hinj |-;clear hL;refine bu 26 1 [.cell 2 65,.tmp 3] mixed Tryz.func17 ?_;simp only [go_sem,seval,aD.cells];(with_reducible and_intros)<;>first|exact .dq|omega|skip
 refine aa.gen [144] [] false (by simp) ?_;simp only [go_sem,seval];refine aU.intro hA ?_;simp only [go_sem,seval,aJ];(with_reducible and_intros)<;>first|exact .dq|omega|skip
 refine aC.walk (S:=Unit) L.length [0,2,9,10] [48,160,176] (fun i _=>[(11,.int .i64 i)]) (fun _ _=>[]) (fun i _=>x ∉ L.take i) () (by simp) ?_ ?_ ?_
 ·simp only [go_sem,seval]<;>simp
 ·intro i _ hi hdi hwi hI;have hm:=aG (c:=aD.cells) L hi;have hli:(i:Int) < (L.length:Int):=by omega
  have hry:=hall _ (List.getElem_mem hi)
  have hst:iQ L[i]≠T->x ∉ L.take (i+1):=fun hne hx'=>by
   rw [List.take_succ_eq_append_getElem hi] at hx';rcases List.mem_append.1 hx' with h | h
   ·exact hI h
   ·exact hne (by rw [hT,<- List.mem_singleton.1 h])
  obtain ⟨y,hy⟩:=aH (L[i]);rw [<- hy] at hm hry hst;have rr:=jx hry;have hN:=xx y hry (by omega) ⟨by omega,by omega⟩ ⟨by omega,by omega⟩;simp only [aD.cells] at hm hN;clear hy
  by_cases q:iQ y=T
  ·obtain rfl:=hinj y hry q;rw [q] at hN;simp only [go_sem,seval,aJ,hdi,hm];(with_reducible and_intros)<;>first|exact .dq|omega|skip
   refine aa.pure hN ?_;simp only [go_sem,seval,beq_self_eq_true]
  ·have hb:((B (iQ y)).toList==(B T).toList)=false:=by
    rw [XL,XL,beq_eq_false_iff_ne];exact q
   simp only [go_sem,seval,aJ,hdi,hm];(with_reducible and_intros)<;>first|exact .dq|omega|skip
   refine aa.pure hN ?_;simp only [go_sem,seval,hb,hwi];(with_reducible and_intros)<;>first|exact .dq|omega|skip
   refine ah.step () hi (hst q) ?_;simp only [go_sem,seval]
 ·intro _ _ hI;rw [List.take_length] at hI;exact absurd hmem hI
theorem WR (b:bC):iQ b.bB++dP [b.sum]=iQ b.bB++32 :: itoa b.sum:=by simp [dP]
theorem WS (bs:List bC) {i:Nat} (hi:i < bs.length):(bU (tF bs)).getD i []=[.str (B (iQ bs[i].bB++32 :: itoa bs[i].sum))]:=by
 rw [<- WR,LN _ (by simpa [tF] using hi)];simp [tF]
def cs3 (f:Int->Int):List D:=[.int .i64 (IntKind.wrap .i64 (f 0)),.int .i64 (IntKind.wrap .i64 (f 1)),.int .i64 (IntKind.wrap .i64 (f 2))]
theorem zo (s:af) (l:List aZ) (hlen:l.length<=1000) (hG:Abs.Spec Tryz.prog 7 [] [.sl 17 (l.map aZ.cells)] [] (.agg s.cells)) (hlb:s.aW.bs.length < 2 ^ 30) (hled:s.aW.okB=true) (hz:∀ c,az (fB c s.aW.bs)=0):Abs.Spec Tryz.prog 5 [] [.sl 17 (l.map aZ.cells)] [] (.bool true):=by
 have hwk:=nR;have d:decide ((1000:Int) < (l.length:Int))=false:=decide_eq_false (by omega);have hbr:∀ b∈s.aW.bs,b.bB.right=true:=fun b hb=>oa hled b hb
 have hbal:∀ b∈s.aW.bs,dj b.sum:=fun b hb=>by
  have:=(j6.1 hled).2.1.1 b hb;simp only [kM,cr] at this;have:=cg.1 this.2.1;exact ⟨by omega,by omega⟩
 have hrr:∀ b∈s.aW.bs,(1<=b.kind/\b.kind<=6)/\(0<=b.who/\b.who<=16)/\0<=b.cur/\b.cur < 3:=fun b hb=>by
  have:=jx (hbr b hb);simp only [bC.bB] at this;omega
 have hA:=rD s hlb (fun b hb=>⟨hbr b hb,by have:=hrr b hb;omega,⟨by have:=hrr b hb;omega,by have:=hrr b hb;omega⟩,⟨by have:=hrr b hb;omega,by have:=hrr b hb;omega⟩,⟨by have:=hrr b hb;omega,by have:=hrr b hb;omega⟩,hbal b hb⟩);have hAl:(tF s.aW.bs).length=s.aW.bs.length:=by simp [tF]
 have hat:=fun {i:Nat} hi=>WS s.aW.bs (i:=i) hi
 obtain ⟨L,hL⟩:=aH (tF s.aW.bs);rw [<- hL] at hA hAl;simp only [<- hL] at hat;clear hL;simp only [af.cells] at hG hA;refine bu 94 1 [.tmp 2] mixed Tryz.func5 ?_;simp only [go_sem,seval,aJ,d];(with_reducible and_intros)<;>first|exact .dq|omega|skip
 refine aa.pure hG ?_;simp only [go_sem,seval];(with_reducible and_intros)<;>first|exact .dq|omega|skip
 refine aa.pure hA ?_;simp only [go_sem,seval,aJ,gl,hAl,beq_self_eq_true];(with_reducible and_intros)<;>first|exact .dq|omega|skip
 refine aC.walk (S:=Unit) s.aW.bs.length [3,4,5] [64,320] (fun i _=>[(6,.int .i64 i)]) (fun i _=>[(96,.box (cs3 fun c=>az (fB c (s.aW.bs.take i))))]) (fun _ _=>True) () trivial ?_ ?_ ?_
 ·have e0:(cs3 fun c=>az (fB c (s.aW.bs.take 0)))=[.int .i64 0,.int .i64 0,.int .i64 0]:=rfl;simp only [e0];simp only [go_sem,seval]
 ·intro i _ hi hdi hwi _;have hm:=aG (c:=bC.cells) s.aW.bs hi;have hli:(i:Int) < (s.aW.bs.length:Int):=by omega
  have hmem:=List.getElem_mem hi;have hx:=hbr _ hmem;have hr:=hrr _ hmem;have hsm:=hbal _ hmem;have hai:=hat hi;have hst:=fun c=>Iz c s.aW.bs hi
  have hlst:=Jh (iQ s.aW.bs[i].bB) s.aW.bs[i].sum hsm (by
   have:=BL s.aW.bs[i].bB ⟨by simp only [bC.bB];omega,by simp only [bC.bB];omega⟩ ⟨by simp only [bC.bB];omega,by simp only [bC.bB];omega⟩
   omega)
  have hps:=Oo s.aW.bs[i].bB hx;have hka:=Gv s.aW.bs[i].bB s.aW.bs[i].bB;rw [decide_eq_true rfl] at hka;obtain ⟨x,hxd⟩:=aH (s.aW.bs[i]);simp only [<- hxd] at hm hr hsm hai hst hlst hps hka;obtain ⟨N,hN⟩:=aH (iQ x.bB);rw [<- hN] at hai hlst hps;obtain ⟨T,hT⟩:=aH (N++32 :: itoa x.sum);rw [<- hT] at hai hlst;obtain ⟨F,hF⟩:∃ F:Int->Int,F=fun c=>az (fB c (s.aW.bs.take i)):=⟨_,rfl⟩
  have hnx:∀ c,az (fB c (s.aW.bs.take (i+1)))=if (x.cur==c)=true then F c+x.sum else F c:=fun c=>by
   rw [hst c,hF];cases q:x.cur==c
   ·simp
   ·simp [dX,az]
  rw [<- hF];simp only [bC.cells] at hm;simp only [bC.bB,aD.cells] at hps hka;clear hxd hN hT hF hx hmem hst hat hbr hbal hrr hA;have hcur:x.cur=0\/x.cur=1\/x.cur=2:=by omega
  have hc0:(0:Int)<=x.cur:=by omega
  have hc3:x.cur < 3:=by omega
  have wa:∀ a,IntKind.wrap .i64 (IntKind.wrap .i64 a+x.sum)=IntKind.wrap .i64 (a+x.sum):=fun a=>wrap_add _ _
  rcases hcur with hc | hc | hc
  all_goals
   rw [hc] at hm hps hka;have g0:=hnx 0;have g1:=hnx 1;have g2:=hnx 2;rw [hc] at g0 g1 g2;simp only [beq_self_eq_true,if_true] at g0 g1 g2;simp (decide:=true) only [if_false] at g0 g1 g2;simp only [cs3,go_sem,seval,aJ,gl,hAl,hdi,hai];(with_reducible and_intros)<;>first|exact .dq|omega|skip
   refine aa.pure hlst ?_;simp only [go_sem,seval];(with_reducible and_intros)<;>first|exact .dq|omega|skip
   refine aa.pure hps ?_;simp only [go_sem,seval,aJ,hm];(with_reducible and_intros)<;>first|exact .dq|omega|skip
   refine aa.pure hka ?_;simp only [go_sem,seval,aJ,hm,beq_self_eq_true,wa,hwi];(with_reducible and_intros)<;>first|exact .dq|omega|skip
   refine ah.step () hi trivial ?_;simp only [go_sem,seval,g0,g1,g2]
 ·intro _ hdx _
  have e:(cs3 fun c=>az (fB c (s.aW.bs.take s.aW.bs.length)))=[.int .i64 0,.int .i64 0,.int .i64 0]:=by
   simp only [List.take_length,cs3,hz];rfl
  rw [e];simp only [go_sem,seval,gl,hAl,hdx];(with_reducible and_intros)<;>first|exact .dq|omega|skip
  refine aC.walk (S:=Unit) 3 [5] [96] (fun i _=>[(12,.int .i64 i)]) (fun _ _=>[]) (fun _ _=>True) () trivial ?_ ?_ ?_
  ·simp only [go_sem,seval]<;>simp
  ·intro i _ hi _ hwi _;have hdi:decide ((i:Int) < 3)=true:=decide_eq_true (by omega);rcases (by omega:i=0\/i=1\/i=2) with rfl | rfl | rfl
   all_goals
    simp only [go_sem,seval,hdi];(with_reducible and_intros)<;>first|exact .dq|omega|skip
    refine ah.step () hi trivial ?_;simp only [go_sem,seval];rfl
  ·intro _ _ _;have hdi:decide (((3:Nat):Int) < 3)=false:=by decide
   simp only [go_sem,seval,hdi];(with_reducible and_intros)<;>first|exact .dq|omega|skip
   refine aa.pure hwk ?_;simp only [go_sem,seval]
theorem DN (l:List aZ):Abs.Spec Tryz.prog 5 [] [.sl 17 (l.map aZ.cells)] [] (.bool true):=by
 rcases Nat.lt_or_ge 1000 l.length with hlen | hlen
 ·have d:decide ((1000:Int) < (l.length:Int))=true:=decide_eq_true (by omega);refine bu 94 1 [.tmp 2] mixed Tryz.func5 ?_;simp only [go_sem,seval,aJ,d]
 obtain ⟨hf,hp⟩:=zC l;exact zo (Dm l) l hlen (sP l hlen) (by have:=hf.right.lens.bs;omega) hf.right.aW (fun c=>IJ hf.right.aW c)
end Go.Proofs.YtnkobepdbkmedaaGreatDoor
