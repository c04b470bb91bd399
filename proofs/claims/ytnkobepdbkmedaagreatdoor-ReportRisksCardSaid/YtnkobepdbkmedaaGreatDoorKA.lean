/- Pledges, as a list in order: what a change makes of it, and what follows. No theorem of a claim. -/
import Derived.Test.YtnkobepdbkmedaaGreatDoorTypes
import Derived.Test.YtnkobepdbkmedaaGreatDoorAbcLoop
import Derived.Test.YtnkobepdbkmedaaGreatDoorAbcHard3
import Derived.Test.YtnkobepdbkmedaaGreatDoorAbcAuto
import Derived.Shelf.Bits.Mul64
import Derived.Test.YtnkobepdbkmedaaGreatDoorAbcOpen
set_option linter.unusedSimpArgs false
set_option linter.unusedVariables false
set_option maxHeartbeats 4000000
set_option maxRecDepth 16000
namespace Go.Proofs.YtnkobepdbkmedaaGreatDoor
open Go.Abs
structure dS where
 who:Int
 bG:Int
 units:Int
 deriving DecidableEq
theorem bn {x:Int} (h1:-9223372036854775808<=x) (h2:x < 9223372036854775808):IntKind.i64.wrap x=x:=CC h1 h2
def dS.key (p:dS):Int:=p.who*8+p.bG
def fy (w a:Int):Bool:=decide (1<=w)&&decide (w<=16)&&decide (1<=a)&&decide (a<=6)
def dS.ok (p:dS):Prop:=fy p.who p.bG=true/\1<=p.units/\p.units<=1099511627776
theorem mD {w a:Int}:fy w a=true ↔ 1<=w/\w<=16/\1<=a/\a<=6:=by
 simp only [fy,cr,decide_eq_true_eq];omega
def Ke (p:dS) (w a:Int):Int:=if p.who≠w then IntKind.wrap .i64 (p.who-w) else IntKind.wrap .i64 (p.bG-a)
theorem FR {p:dS} {w a:Int} (hp:fy p.who p.bG=true) (h:fy w a=true):Ke p w a=if p.who≠w then p.who-w else p.bG-a:=by
 rw [mD] at hp h;unfold Ke;rw [bn (by omega) (by omega),bn (by omega) (by omega)]
theorem JT {p:dS} {w a:Int} (hp:fy p.who p.bG=true) (h:fy w a=true):Ke p w a < 0 ↔ p.key < w*8+a:=by
 rw [FR hp h];rw [mD] at hp h;unfold dS.key;split<;>omega
theorem key_inj {p:dS} {w a:Int} (hp:fy p.who p.bG=true) (h:fy w a=true):p.key=w*8+a ↔ p.who=w/\p.bG=a:=by
 rw [mD] at hp h;unfold dS.key;omega
def oz (ps:List dS) (i:Nat):Bool:=
 match ps[i]? with
 | none=>true
 | some p=>fy p.who p.bG&&decide (1<=p.units)&&decide (p.units<=1099511627776)&&(match i with
  | 0=>true
  | j+1=>match ps[j]? with
   | some q=>decide (Ke q p.who p.bG < 0)
   | none=>true)
def gj (ps:List dS):Bool:=(List.range ps.length).all (oz ps)
def Good (ps:List dS):Prop:=(∀ p∈ps,p.ok)/\ps.Pairwise (fun p q=>p.key < q.key)
theorem gY {ps:List dS}:gj ps=true ↔ Good ps:=by
 have hok:∀ i (h:i < ps.length),oz ps i=true ↔ ps[i].ok/\∀ j,(hj:j+1=i)->Ke (ps[j]'(by omega)) ps[i].who ps[i].bG < 0:=by
  intro i h;unfold oz;rw [List.getElem?_eq_getElem h];cases i with
  | zero=>simp [dS.ok,and_assoc]
  | succ i =>
   simp only [List.getElem?_eq_getElem (show i < ps.length by omega),cr,decide_eq_true_eq,dS.ok];constructor
   ·rintro ⟨⟨⟨h1,h2⟩,h3⟩,h4⟩
    exact ⟨⟨h1,h2,h3⟩,fun j hj=>(show j=i by omega) ▸ h4⟩
   ·rintro ⟨⟨h1,h2,h3⟩,h4⟩
    exact ⟨⟨⟨h1,h2⟩,h3⟩,h4 i rfl⟩
 constructor
 ·intro hc
  have hall:∀ i (h:i < ps.length),oz ps i=true:=by
   intro i h;exact List.all_eq_true.1 hc i (List.mem_range.2 h)
  have hp:∀ i (h:i < ps.length),ps[i].ok:=fun i h=>((hok i h).1 (hall i h)).1
  refine ⟨?_,?_⟩
  ·intro p hm;obtain ⟨i,hi,rfl⟩:=List.mem_iff_getElem.1 hm;exact hp i hi
  ·rw [List.pairwise_iff_getElem]
   have key:∀ d i (hj:i+d+1 < ps.length),ps[i].key < ps[i+d+1].key:=by
    intro d
    induction d with
    | zero =>
     intro i hj;have h1:=((hok (i+1) hj).1 (hall _ hj)).2 i rfl;rw [JT (hp i (by omega)).1 (hp (i+1) hj).1] at h1;exact h1
    | succ d ih =>
     intro i hj;have h0:=ih i (by omega);have h1:=((hok (i+d+1+1) hj).1 (hall _ hj)).2 (i+d+1) rfl;rw [JT (hp (i+d+1) (by omega)).1 (hp (i+d+1+1) hj).1] at h1;exact Int.lt_trans h0 h1
   intro i j hi hj hij;have:=key (j-i-1) i (by omega);have e:i+(j-i-1)+1=j:=by omega
   simpa only [e] using this
 ·rintro ⟨h1,h2⟩
  rw [List.pairwise_iff_getElem] at h2;refine List.all_eq_true.2 fun i hi=>?_
  have hi:=List.mem_range.1 hi;rw [hok i hi];refine ⟨h1 _ (List.getElem_mem hi),?_⟩;intro j hj;have hjl:j < ps.length:=by omega
  rw [JT (h1 _ (List.getElem_mem hjl)).1 (h1 _ (List.getElem_mem hi)).1];exact h2 j i hjl hi (by omega)
def pos (K:Int):List dS->Nat
 | []=>0
 | p :: r=>if p.key < K then pos K r+1 else 0
def Ij (w a n:Int):List dS->List dS
 | []=>if n > 0 then [⟨w,a,n⟩] else []
 | p :: r=>if p.key < w*8+a then p :: Ij w a n r else if p.key=w*8+a then (if n > 0 then ⟨w,a,n⟩ :: r else r) else (if n > 0 then ⟨w,a,n⟩ :: p :: r else p :: r)
def bZ (w a:Int):List dS->Int
 | []=>0
 | p :: r=>if p.who=w/\p.bG=a then p.units else bZ w a r
theorem D9 {w a n:Int}:∀ {ps:List dS} {q:dS},q∈Ij w a n ps->q∈ps\/(q=⟨w,a,n⟩/\n > 0)
 | [],q,h=>by
  simp only [Ij] at h;split at h
  ·simp at h;exact .inr ⟨h,by assumption⟩
  ·simp at h
 | p :: r,q,h=>by
  simp only [Ij] at h;split at h
  ·rcases List.mem_cons.1 h with h | h
   ·exact .inl (by simp [h])
   ·rcases D9 h with h | h
    ·exact .inl (by simp [h])
    ·exact .inr h
  ·split at h
   ·split at h
    ·rcases List.mem_cons.1 h with h | h
     ·exact .inr ⟨h,by assumption⟩
     ·exact .inl (by simp [h])
    ·exact .inl (by simp [h])
   ·split at h
    ·rcases List.mem_cons.1 h with h | h
     ·exact .inr ⟨h,by assumption⟩
     ·exact .inl h
    ·exact .inl h
theorem MN {w a n:Int} (hr:fy w a=true) (hn:n<=1099511627776) {ps:List dS} (hg:Good ps):Good (Ij w a n ps):=by
 refine ⟨?_,?_⟩
 ·intro q hq;rcases D9 hq with h | ⟨rfl,h⟩
  ·exact hg.1 q h
  ·exact ⟨hr,by show 1<=n;omega,hn⟩
 ·have hp:=hg.2;clear hg
  induction ps with
  | nil=>simp only [Ij];split<;>simp
  | cons p r ih =>
   rw [List.pairwise_cons] at hp;simp only [Ij];split
   ·rename_i h;rw [List.pairwise_cons];refine ⟨?_,ih hp.2⟩;intro q hq;rcases D9 hq with h2 | ⟨rfl,_⟩
    ·exact hp.1 q h2
    ·exact h
   ·split
    ·split
     ·rename_i h1 h2 _;rw [List.pairwise_cons];refine ⟨?_,hp.2⟩;intro q hq;have:=hp.1 q hq
      show w*8+a < q.key
      omega
     ·exact hp.2
    ·split
     ·rename_i h1 h2 _;rw [List.pairwise_cons,List.pairwise_cons];refine ⟨?_,hp⟩;intro q hq
      show w*8+a < q.key
      rcases List.mem_cons.1 hq with rfl | hq
      ·omega
      ·have:=hp.1 q hq;omega
     ·rw [List.pairwise_cons];exact hp
theorem y7 {w a:Int}:∀ {ps:List dS},(∀ p∈ps,¬ (p.who=w/\p.bG=a))->bZ w a ps=0
 | [],_=>rfl
 | p :: r,h=>by simp only [bZ,if_neg (h p (by simp))];exact y7 fun q hq=>h q (by simp [hq])
theorem Ja {w a n:Int} (hr:fy w a=true) (hn:0<=n):∀ {ps:List dS},Good ps->bZ w a (Ij w a n ps)=n
 | [],_=>by
  simp only [Ij];split
  ·simp [bZ]
  ·simp [bZ];omega
 | p :: r,hg=>by
  have hp:=(hg.1 p (by simp)).1;have hgr:Good r:=⟨fun q hq=>hg.1 q (by simp [hq]),(List.pairwise_cons.1 hg.2).2⟩
  have hlt:=(List.pairwise_cons.1 hg.2).1;have hkey:=key_inj hp hr
  have hrest:w*8+a<=p.key->∀ q∈r,¬ (q.who=w/\q.bG=a):=by
   intro hle q hq hh;have h1:=(key_inj (hg.1 q (by simp [hq])).1 hr).2 hh;have h2:=hlt q hq;omega
  simp only [Ij];split
  ·rename_i h;have:¬ (p.who=w/\p.bG=a):=fun hh=>by have:=hkey.2 hh;omega
   simp only [bZ,if_neg this];exact Ja hr hn hgr
  ·split
   ·split
    ·simp [bZ]
    ·rw [y7 (hrest (by omega))];omega
   ·rename_i h1 h2;have:¬ (p.who=w/\p.bG=a):=fun hh=>h2 (hkey.2 hh)
    split
    ·simp [bZ]
    ·simp only [bZ,if_neg this];rw [y7 (hrest (by omega))];omega
theorem C4 {w a n w' a':Int} (hne:¬ (w'=w/\a'=a)) (hr:fy w a=true):∀ {ps:List dS},Good ps->bZ w' a' (Ij w a n ps)=bZ w' a' ps
 | [],_=>by
  have:¬ (w=w'/\a=a'):=fun h=>hne ⟨h.1.symm,h.2.symm⟩
  simp only [Ij];split
  ·simp [bZ,this]
  ·rfl
 | p :: r,hg=>by
  have hp:=(hg.1 p (by simp)).1;have hgr:Good r:=⟨fun q hq=>hg.1 q (by simp [hq]),(List.pairwise_cons.1 hg.2).2⟩
  have hh:¬ (w=w'/\a=a'):=fun h=>hne ⟨h.1.symm,h.2.symm⟩
  have hkey:=key_inj hp hr;simp only [Ij];split
  ·simp only [bZ,C4 hne hr hgr]
  ·split
   ·rename_i h1 h2;have e:=hkey.1 h2;have:¬ (p.who=w'/\p.bG=a'):=fun h=>hne ⟨by rw [<- h.1,e.1],by rw [<- h.2,e.2]⟩
    split
    ·simp [bZ,hh,this]
    ·simp [bZ,this]
   ·split
    ·simp [bZ,hh]
    ·rfl
def dS.cells (p:dS):List D:=[.int .i64 p.who,.int .i64 p.bG,.int .i64 p.units]
def pl (ps:List dS):List (List D):=ps.map dS.cells
@[go_sem] theorem oR (ps:List dS):(pl ps).length=ps.length:=by simp [pl]
theorem nq (ps:List dS) {i:Nat} (h:i < ps.length):(pl ps).getD i []=[.int .i64 ps[i].who,.int .i64 ps[i].bG,.int .i64 ps[i].units]:=by simp [pl,h,dS.cells]
theorem LO (w a:Int):Abs.Spec Tryz.prog 152 [] [.int .i64 w,.int .i64 a] [] (.bool (fy w a)):=by
 refine bu 19 2 [.tmp 4] mixed Tryz.func152 ?_;simp only [go_sem,seval]
 repeat' with_reducible first|apply And.intro|exact .dq|refine aa.pure (by assumption) ?_|refine .aT (fun h=>?_) fun h=>?_|refine .aO (fun h=>?_) fun h=>?_|refine .aS (fun h=>?_) fun h=>?_|refine .split (fun h=>?_) fun h=>?_|refine .id ?_|refine ah.next (by omega) ?_ ?_|exact trivial|simp only [*,go_sem,seval]
 all_goals (simp only [fy];simp<;>omega)
theorem Kj (p:dS) (w a:Int):Abs.Spec Tryz.prog 153 [] [.agg [.int .i64 p.who,.int .i64 p.bG,.int .i64 p.units],.int .i64 w,.int .i64 a] [] (.int .i64 (Ke p w a)):=by
 refine bu 19 3 [.tmp 6] mixed Tryz.func153 ?_;simp only [go_sem,seval]
 repeat' with_reducible first|apply And.intro|exact .dq|refine aa.pure (by assumption) ?_|refine .aT (fun h=>?_) fun h=>?_|refine .aO (fun h=>?_) fun h=>?_|refine .aS (fun h=>?_) fun h=>?_|refine .split (fun h=>?_) fun h=>?_|refine .id ?_|refine ah.next (by omega) ?_ ?_|exact trivial|simp only [*,go_sem,seval]
 all_goals (simp only [Ke];simp_all)
theorem JS {ps:List dS} {i:Nat} (h:i < ps.length):oz ps i=(fy ps[i].who ps[i].bG&&decide (1<=ps[i].units)&&decide (ps[i].units<=1099511627776)&&(decide (i=0)||decide (Ke (ps.getD (i-1) ⟨0,0,0⟩) ps[i].who ps[i].bG < 0))):=by
 unfold oz;rw [List.getElem?_eq_getElem h];cases i with
 | zero=>simp
 | succ i =>
  have h':i < ps.length:=by omega
  simp [List.getElem?_eq_getElem h',List.getD_eq_getElem?_getD]
theorem IQ {ps:List dS} {i:Nat} (h:i < ps.length) (hn:oz ps i=false):gj ps=false:=by
 cases hc:gj ps
 ·rfl
 ·rw [List.all_eq_true.1 hc i (List.mem_range.2 h)] at hn;cases hn
theorem Gy {ps:List dS} (h:∀ i < ps.length,oz ps i=true):gj ps=true:=List.all_eq_true.2 fun i hi=>h i (List.mem_range.1 hi)
theorem I1 (ps:List dS) (hl:ps.length < 2 ^ 62):Abs.Spec Tryz.prog 70 [] [.sl 3 (pl ps)] [] (.int .i64 (if gj ps then 0 else 14)):=by
 refine bu 46 1 [.tmp 2] mixed Tryz.func70 ?_;simp only [go_sem,seval];refine aC.count ps.length [0,5,6] [112] (fun i=>[(7,.int .i64 i)]) (fun i=>[]) (fun i=>∀ j < i,oz ps j=true) (by simp) ?_ ?_
 ·simp only [go_sem,seval]<;>simp
 ·intro i hi hI;simp only [go_sem,seval];refine bH.aO (fun h=>?_) (fun h=>?_)
  ·have hi':i < ps.length:=by omega
   have hw:IntKind.wrap .i64 ((i:Int)+1)=((i+1:Nat):Int):=by rw [bn (by omega) (by omega)];omega
   have hr:=LO ps[i].who ps[i].bG;have hk:=JS hi'
   have e0:oz ps i=true->∀ k < i+1,oz ps k=true:=fun h0 k hk=>by
    rcases Nat.lt_or_ge k i with h | h
    ·exact hI k h
    ·obtain rfl:k=i:=by omega
     exact h0
   have e1:oz ps i=false->gj ps=false:=IQ hi';rcases Nat.eq_zero_or_pos i with rfl | hpos
   ·simp only [go_sem,seval,nq ps hi']
    repeat' with_reducible first|apply And.intro|exact .dq|refine aa.pure (by assumption) ?_|refine aa.pure (hr) ?_|refine .aT (fun h=>?_) fun h=>?_|refine .aO (fun h=>?_) fun h=>?_|refine .aS (fun h=>?_) fun h=>?_|refine .split (fun h=>?_) fun h=>?_|refine .id ?_|refine ah.next (by omega) ?_ ?_|exact trivial|simp only [*,go_sem,seval]
    all_goals first
     | omega
     | (refine e0 ?_;rw [hk];simp_all<;>omega)
     | rfl
     | (rw [e1 ?_]
        ·rfl
        ·cases hh:oz ps 0
         ·rfl
         ·exfalso;rw [hk] at hh;simp at hh;first | omega | (simp_all;done) | (simp_all;omega))
   ·obtain ⟨j,rfl⟩:∃ j,i=j+1:=⟨i-1,by omega⟩
    have hj:j < ps.length:=by omega
    have hw1:IntKind.wrap .i64 (((j+1:Nat):Int)-1)=(j:Int):=by rw [bn (by omega) (by omega)];omega
    have hcmp:=Kj ps[j] ps[j+1].who ps[j+1].bG;have ej:ps.getD (j+1-1) ⟨0,0,0⟩=ps[j]:=by simp [hj]
    rw [ej] at hk;simp only [go_sem,seval,nq ps hi']
    repeat' with_reducible first|apply And.intro|exact .dq|refine aa.pure (by assumption) ?_|refine aa.pure (hr) ?_|refine aa.pure (hcmp) ?_|refine .aT (fun h=>?_) fun h=>?_|refine .aO (fun h=>?_) fun h=>?_|refine .aS (fun h=>?_) fun h=>?_|refine .split (fun h=>?_) fun h=>?_|refine .id ?_|refine ah.next (by omega) ?_ ?_|exact trivial|simp only [*,go_sem,seval,nq ps hj]
    all_goals first
     | omega
     | (refine e0 ?_;rw [hk];simp_all<;>omega)
     | rfl
     | (rw [e1 ?_]
        ·rfl
        ·cases hh:oz ps (j+1)
         ·rfl
         ·exfalso;rw [hk] at hh;simp at hh;first | omega | (simp_all;done) | (simp_all;omega))
  ·obtain rfl:i=ps.length:=by omega
   have hc:=Gy hI
   repeat' with_reducible first|apply And.intro|exact .dq|refine aa.pure (by assumption) ?_|refine .aT (fun h=>?_) fun h=>?_|refine .aO (fun h=>?_) fun h=>?_|refine .aS (fun h=>?_) fun h=>?_|refine .split (fun h=>?_) fun h=>?_|refine .id ?_|refine ah.next (by omega) ?_ ?_|exact trivial|simp only [*,go_sem,seval]
theorem Ka {ps:List dS} {i:Nat} (h:i < ps.length):ps.drop i=ps[i] :: ps.drop (i+1):=(List.drop_eq_getElem_cons h)
theorem Pd {a b:Int} (h:(a==b)=true):a=b:=by simpa using h
def eg (ps:List dS) (w a u:Int):Int:=
 if gj ps=false then 14 else if (fy w a&&decide (-1099511627776<=u)&&decide (u<=1099511627776))=false then 3 else
  if bZ w a ps+u < 0 then 13 else if bZ w a ps+u > 1099511627776 then 1 else 0
def dh (ps:List dS) (w a u:Int):List dS:=if eg ps w a u=0 then Ij w a (bZ w a ps+u) ps else []
theorem Aa {w a:Int}:∀ {ps:List dS},(∀ p∈ps,p.ok)->0<=bZ w a ps/\bZ w a ps<=1099511627776
 | [],_=>by simp [bZ]
 | p :: r,h=>by
  have h1:=(h p (by simp)).2;have h2:=Aa (w:=w) (a:=a) (ps:=r) fun q hq=>h q (by simp [hq])
  simp only [bZ];split<;>omega
def within (a b c:Int):Bool:=decide (b<=a)&&decide (a<=c)
theorem fJ (a b c:Int):Abs.Spec Tryz.prog 217 [] [.int .i64 a,.int .i64 b,.int .i64 c] [] (.bool (within a b c)):=by
 refine Abs.Spec.go (n:=15) (np:=3) (rs:=[.tmp 6]) mixed Tryz.func217 rfl rfl rfl rfl rfl (by simp) (by simp) ?_;simp only [go_sem,seval];refine bY.split (fun h=>?_) (fun h=>?_)<;>simp only [h,go_sem,seval]
 all_goals simp [within,h]
def ints (xs:List Int):List (List D):=xs.map fun x=>[.int .i64 x]
def bL (x:Int):Bool:=decide (-4611686018427387904<=x)&&decide (x<=4611686018427387904)
def right (xs:List Int):Bool:=xs.all bL
theorem av (xs:List Int):(ints xs).length=xs.length:=by simp [ints]
theorem ints_at (xs:List Int) {i:Nat} (h:i < xs.length):(ints xs).getD i []=[.int .i64 xs[i]]:=by simp [ints,h]
theorem wrap64 {x:Int} (h:-9223372036854775808<=x) (h':x<=9223372036854775807):IntKind.wrap .i64 x=x:=by
 rw [IntKind.wrap_i64];omega
theorem gA (xs:List Int) (hl:xs.length < 2 ^ 62):Abs.Spec Tryz.prog 144 [] [.sl 1 (ints xs)] [] (.bool (right xs)):=by
 refine Abs.Spec.go (n:=18) (np:=1) (rs:=[.tmp 2]) mixed Tryz.func144 rfl rfl rfl rfl rfl (by simp) (by simp) ?_;simp only [go_sem,seval];refine ⟨Nat,fun i=>[(2,.bool false),(5,.sl 1 (ints xs)),(6,.int .i64 xs.length),(7,.int .i64 i)],fun i=>[],fun i=>i<=xs.length/\right (xs.take i)=true,fun i=>xs.length-i,0,?_,?_,?_⟩
 ·simp [right]
 ·simp only [go_sem,seval,av]<;>simp
 ·rintro i ⟨hi,hr⟩
  simp only [go_sem,seval];refine bH.split (fun h=>?_) (fun h=>?_)
  ·have hi':i < xs.length:=by simpa using h
   simp only [go_sem,seval,Int.toNat_natCast,ints_at xs hi'];refine ⟨by simp [av,hi'],?_⟩
   have bad:bL xs[i]=false->false=right xs:=fun hx=>by
    symm;simp only [right,List.all_eq_false]
    exact ⟨xs[i],List.getElem_mem hi',by simp [hx]⟩
   refine .aS (fun h=>?_) (fun h=>?_)<;>simp only [h,go_sem,seval]
   ·refine .split (fun h2=>?_) (fun h2=>?_)<;>simp only [h2,go_sem,seval]
    ·exact bad (by simp [bL] at h2 |-;omega)
    ·refine ⟨i+1,⟨hi',?_⟩,?_,by simp only;omega⟩
     ·rw [right,List.take_succ_eq_append_getElem hi',List.all_append];rw [right] at hr;rw [hr];simp [bL] at h h2 |-;omega
     ·simp only [go_sem,seval,av];rw [wrap64 (by omega) (by omega)];simp
   ·exact bad (by simp [bL] at h |-;omega)
  ·simp only [go_sem,seval];have:i=xs.length:=by simp at h;omega
   subst this;simpa using hr.symm
structure au where
 a:Int
 b:Int
 c:Int
 d:Int
@[reducible] def au.cells (x:au):List D:=[.int .i64 x.a,.int .i64 x.b,.int .i64 x.c,.int .i64 x.d]
def au.ok (x:au):Bool:=within x.a 1 6&&within x.b 0 2&&within x.c 1 1073741824&&within x.d 0 10000
theorem tw (x:au):Abs.Spec Tryz.prog 142 [] [.agg x.cells] [] (.bool x.ok):=by
 refine Abs.Spec.go (n:=21) (np:=1) (rs:=[.tmp 2]) mixed Tryz.func142 rfl rfl rfl rfl rfl (by simp) (by simp) ?_;simp only [au.cells];simp only [go_sem,seval]
 repeat' (with_reducible first
  | apply And.intro
  | refine aa.pure (fJ _ _ _) ?_
  | refine bY.aS (fun h=>?_) (fun h=>?_)
  | refine bY.split (fun h=>?_) (fun h=>?_)
  | simp only [*,go_sem,seval])
 all_goals simp [au.ok, *]
theorem sL (x:au):Abs.Spec Tryz.prog 141 [] [.agg x.cells] [] (.int .i64 x.a):=by
 refine Abs.Spec.go (n:=5) (np:=1) (rs:=[.tmp 2]) mixed Tryz.func141 rfl rfl rfl rfl rfl (by simp) (by simp) ?_;simp only [au.cells];simp only [go_sem,seval]
def cw {A:Type} (no:A->Int) (ok:A->Bool) (xs:List A) (i:Nat):Bool:=match xs[i]? with
 | some x=>ok x&&(match i with
  | 0=>true
  | j+1=>match xs[j]? with
   | some y=>decide (no y < no x)
   | none=>true)
 | none=>true
theorem gr {A:Type} (no:A->Int) (ok:A->Bool) (xs:List A) {i:Nat} (hi:i < xs.length) (h:¬ 0 < i):cw no ok xs i=ok xs[i]:=by
 have:i=0:=by omega
 subst this;simp [cw,hi]
theorem gw {A:Type} (no:A->Int) (ok:A->Bool) (xs:List A) {i:Nat} (hi:i < xs.length) (h:0 < i):cw no ok xs i=(ok xs[i]&&decide (no xs[i-1] < no xs[i])):=by
 obtain ⟨j,rfl⟩:∃ j,i=j+1:=⟨i-1,by omega⟩
 have:j < xs.length:=by omega
 simp [cw,hi,this]
def gU {A:Type} (no:A->Int) (ok:A->Bool) (xs:List A):Bool:=(List.range xs.length).all (cw no ok xs)
theorem aG {A:Type} {c:A->List D} (xs:List A) {i:Nat} (h:i < xs.length):(xs.map c).getD i []=c xs[i]:=by simp [h]
theorem tg (xs:List au) (hl:xs.length < 2 ^ 62):Abs.Spec Tryz.prog 140 [] [.sl 4 (xs.map au.cells),.fn 141 [],.fn 142 []] [] (.bool (gU au.a au.ok xs)):=by
 refine Abs.Spec.go (n:=38) (np:=3) (rs:=[.tmp 6]) mixed Tryz.func140 rfl rfl rfl rfl rfl (by simp) (by simp) ?_;simp only [go_sem,seval,aJ];refine ⟨Nat,fun i=>[(6,.bool false),(0,.sl 4 (xs.map au.cells)),(1,.fn 141 []),(2,.fn 142 []),(9,.sl 4 (xs.map au.cells)),(10,.int .i64 xs.length),(11,.int .i64 i)],fun i=>[],fun i=>i<=xs.length/\∀ j,j < i->cw au.a au.ok xs j=true,fun i=>xs.length-i,0,?_,?_,?_⟩
 ·simp
 ·simp only [go_sem,seval,aJ]<;>simp
 ·rintro i ⟨hi,hr⟩
  simp only [go_sem,seval];refine bH.split (fun h=>?_) (fun h=>?_)
  ·have hi':i < xs.length:=by simpa using h
   have bad:cw au.a au.ok xs i=false->gU au.a au.ok xs=false:=fun hx=>by
    simp only [gU,List.all_eq_false];exact ⟨i,List.mem_range.2 hi',by simp [hx]⟩
   simp only [go_sem,seval,Int.toNat_natCast,aG xs hi',au.cells];refine ⟨by simp [hi'],?_⟩
   have next:cw au.a au.ok xs i=true->∀ j,j < i+1->cw au.a au.ok xs j=true:=fun hx j hj=>by
    rcases Nat.lt_succ_iff_lt_or_eq.1 hj with h1 | rfl
    ·exact hr j h1
    ·exact hx
   by_cases h0:0 < i
   ·have hw:IntKind.wrap .i64 ((i:Int)-1)=((i-1:Nat):Int):=by rw [wrap64 (by omega) (by omega)];omega
    have hp:i-1 < xs.length:=by omega
    have hg:decide (0 < (i:Int))=true:=by simp;omega
    have hm:=aG (c:=au.cells) xs hp;have hra:=gw au.a au.ok xs hi' h0
    repeat' (with_reducible first
     | apply And.intro
     | exact gX.mk (by kernel_rfl)
     | exact B1.mk (by kernel_rfl)
     | refine aa.pure (tw _) ?_
     | refine aa.pure (sL _) ?_
     | refine bY.aS (fun h=>?_) (fun h=>?_)
     | refine bY.split (fun h=>?_) (fun h=>?_)
     | refine bH.split (fun h=>?_) (fun h=>?_)
     | refine fu.id ?_
     | simp only [hw,hg,hm,go_sem,seval, *,Int.toNat_natCast,au.cells])
    ·simp;omega
    ·exact (bad (by rw [hra];simp at h;simp;intro _;omega)).symm
    ·refine ⟨i+1,⟨hi',next (by rw [hra];simp at h;simp [*])⟩,?_,by simp only;omega⟩;simp only [go_sem,seval,aJ];rw [wrap64 (by omega) (by omega)];simp
   ·have hg:decide (0 < (i:Int))=false:=by simp;omega
    have hra:=gr au.a au.ok xs hi' h0
    repeat' (with_reducible first
     | apply And.intro
     | exact gX.mk (by kernel_rfl)
     | exact B1.mk (by kernel_rfl)
     | refine aa.pure (tw _) ?_
     | refine aa.pure (sL _) ?_
     | refine bY.aS (fun h=>?_) (fun h=>?_)
     | refine bY.split (fun h=>?_) (fun h=>?_)
     | refine bH.split (fun h=>?_) (fun h=>?_)
     | refine fu.id ?_
     | simp only [hg,go_sem,seval, *,Int.toNat_natCast,au.cells])
    ·refine ⟨i+1,⟨hi',next (by rw [hra];simp [*])⟩,?_,by simp only;omega⟩;simp only [go_sem,seval,aJ];rw [wrap64 (by omega) (by omega)];simp
  ·simp only [go_sem,seval];have:i=xs.length:=by simp at h;omega
   subst this
   symm
   simpa [gU] using hr
theorem Gf:Abs.Spec Tryz.prog 135 [] [.nil,.fn 56 [],.fn 136 []] [] (.bool true):=by
 refine Abs.Spec.go (n:=38) (np:=3) (rs:=[.tmp 6]) mixed Tryz.func135 rfl rfl rfl rfl rfl (by simp) (by simp) ?_;simp only [go_sem,seval];refine ⟨Unit,fun _=>[(6,.bool false),(10,.int .i64 0),(11,.int .i64 0)],fun _=>[],fun _=>True,fun _=>0,(),trivial,?_,?_⟩
 ·simp only [go_sem,seval]
 ·intro _ _;simp only [go_sem,seval,Int.lt_irrefl,decide_false]
theorem Ks:Abs.Spec Tryz.prog 137 [] [.nil,.fn 138 [],.fn 139 []] [] (.bool true):=by
 refine Abs.Spec.go (n:=38) (np:=3) (rs:=[.tmp 6]) mixed Tryz.func137 rfl rfl rfl rfl rfl (by simp) (by simp) ?_;simp only [go_sem,seval];refine ⟨Unit,fun _=>[(6,.bool false),(10,.int .i64 0),(11,.int .i64 0)],fun _=>[],fun _=>True,fun _=>0,(),trivial,?_,?_⟩
 ·simp only [go_sem,seval]
 ·intro _ _;simp only [go_sem,seval,Int.lt_irrefl,decide_false]
theorem Pn (xs:List au) (hl:xs.length < 2 ^ 62):Abs.Spec Tryz.prog 67 [] [.agg [.nil,.nil,.sl 4 (xs.map au.cells)]] [] (.int .i64 (if gU au.a au.ok xs then 0 else 14)):=by
 refine Abs.Spec.go (n:=19) (np:=1) (rs:=[.tmp 2]) mixed Tryz.func67 rfl rfl rfl rfl rfl (by simp) (by simp) ?_;simp only [go_sem,seval]
 repeat' (with_reducible first
  | apply And.intro
  | exact gX.mk (by kernel_rfl)
  | exact B1.mk (by kernel_rfl)
  | refine aa.pure (tg _ hl) ?_
  | refine aa.pure Gf ?_
  | refine aa.pure Ks ?_
  | refine bY.aS (fun h=>?_) (fun h=>?_)
  | refine bY.split (fun h=>?_) (fun h=>?_)
  | refine bH.aS (fun h=>?_) (fun h=>?_)
  | refine bH.split (fun h=>?_) (fun h=>?_)
  | refine fu.id ?_
  | simp only [*,go_sem,seval])
 all_goals (simp at h;simp [h])
theorem RY (a k:Nat) (hk:k<=64):BP .u64 (a:Int) (k:Int)=((a / 2 ^ k:Nat):Int):=by
 unfold BP;have h1:min (Int.toNat (k:Int)) (IntKind.bits .u64)=k:=by simp [IntKind.bits];omega
 rw [h1,Int.fdiv_eq_ediv_of_nonneg _ (by exact_mod_cast Nat.zero_le _)]
 push_cast
 rfl
theorem lC (a:Nat):BP .u64 (a:Int) 32=((a / 4294967296:Nat):Int):=RY a 32 (by omega)
theorem aaY (a:Nat):BP .u64 (a:Int) 16=((a / 65536:Nat):Int):=RY a 16 (by omega)
theorem afe (a:Nat):BP .u64 (a:Int) 8=((a / 256:Nat):Int):=RY a 8 (by omega)
def len8:ByteArray:=⟨((List.append (α:=UInt8) [0,1,2,2,3,3,3,3,4,4,4,4,4,4,4,4,5,5,5,5,5,5,5,5,5,5,5,5,5,5,5,5,6,6,6,6,6,6,6,6,6,6,6,6,6,6,6,6,6,6,6,6,6,6,6,6,6,6,6,6,6,6,6,6] [7,7,7,7,7,7,7,7,7,7,7,7,7,7,7,7,7,7,7,7,7,7,7,7,7,7,7,7,7,7,7,7,7,7,7,7,7,7,7,7,7,7,7,7,7,7,7,7,7,7,7,7,7,7,7,7,7,7,7,7,7,7,7,7]).append (List.append (α:=UInt8) [8,8,8,8,8,8,8,8,8,8,8,8,8,8,8,8,8,8,8,8,8,8,8,8,8,8,8,8,8,8,8,8,8,8,8,8,8,8,8,8,8,8,8,8,8,8,8,8,8,8,8,8,8,8,8,8,8,8,8,8,8,8,8,8] [8,8,8,8,8,8,8,8,8,8,8,8,8,8,8,8,8,8,8,8,8,8,8,8,8,8,8,8,8,8,8,8,8,8,8,8,8,8,8,8,8,8,8,8,8,8,8,8,8,8,8,8,8,8,8,8,8,8,8,8,8,8,8,8])).toArray⟩
theorem aej:ByteArray.mk (((List.append (α:=UInt8) [0,1,2,2,3,3,3,3,4,4,4,4,4,4,4,4,5,5,5,5,5,5,5,5,5,5,5,5,5,5,5,5,6,6,6,6,6,6,6,6,6,6,6,6,6,6,6,6,6,6,6,6,6,6,6,6,6,6,6,6,6,6,6,6] [7,7,7,7,7,7,7,7,7,7,7,7,7,7,7,7,7,7,7,7,7,7,7,7,7,7,7,7,7,7,7,7,7,7,7,7,7,7,7,7,7,7,7,7,7,7,7,7,7,7,7,7,7,7,7,7,7,7,7,7,7,7,7,7]).append (List.append (α:=UInt8) [8,8,8,8,8,8,8,8,8,8,8,8,8,8,8,8,8,8,8,8,8,8,8,8,8,8,8,8,8,8,8,8,8,8,8,8,8,8,8,8,8,8,8,8,8,8,8,8,8,8,8,8,8,8,8,8,8,8,8,8,8,8,8,8] [8,8,8,8,8,8,8,8,8,8,8,8,8,8,8,8,8,8,8,8,8,8,8,8,8,8,8,8,8,8,8,8,8,8,8,8,8,8,8,8,8,8,8,8,8,8,8,8,8,8,8,8,8,8,8,8,8,8,8,8,8,8,8,8])).toArray)=len8:=rfl
def L8 (x:Nat):Nat:=((len8[x]?).map (·.toNat)).getD 0
def L16 (x:Nat):Nat:=if 256<=x then 8+L8 (x / 256) else L8 x
def Zs (x:Nat):Nat:=if 65536<=x then 16+L16 (x / 65536) else L16 x
def Tr (x:Nat):Nat:=if 4294967296<=x then 32+Zs (x / 4294967296) else Zs x
theorem Y1:(List.range 256).all (fun x=>decide (x < 2 ^ L8 x)&&(x==0||decide (2 ^ L8 x<=2*x))&&decide (L8 x<=8))=true:=by kernel_rfl
theorem Xx (x:Nat) (h:x < 256):x < 2 ^ L8 x/\(0 < x->2 ^ L8 x<=2*x)/\L8 x<=8:=by
 have:=List.all_eq_true.1 Y1 x (List.mem_range.2 h);simp only [cr,Bool.or_eq_true,decide_eq_true_eq,beq_iff_eq] at this;refine ⟨this.1.1,?_,this.2⟩;intro h0;rcases this.1.2 with h1 | h1
 ·omega
 ·exact h1
theorem UW (x:Nat) (h:x < 65536):x < 2 ^ L16 x/\(0 < x->2 ^ L16 x<=2*x)/\L16 x<=16:=by
 unfold L16;split
 ·obtain ⟨h1,h2,h3⟩:=Xx (x / 256) (by omega);have:=h2 (by omega);rw [Nat.pow_add];refine ⟨by omega,by omega,by omega⟩
 ·obtain ⟨h1,h2,h3⟩:=Xx x (by omega);exact ⟨h1,h2,by omega⟩
theorem TR (x:Nat) (h:x < 4294967296):x < 2 ^ Zs x/\(0 < x->2 ^ Zs x<=2*x)/\Zs x<=32:=by
 unfold Zs;split
 ·obtain ⟨h1,h2,h3⟩:=UW (x / 65536) (by omega);have:=h2 (by omega);rw [Nat.pow_add];refine ⟨by omega,by omega,by omega⟩
 ·obtain ⟨h1,h2,h3⟩:=UW x (by omega);exact ⟨h1,h2,by omega⟩
theorem UQ (x:Nat) (h:x < 18446744073709551616):x < 2 ^ Tr x/\(0 < x->2 ^ Tr x<=2*x)/\Tr x<=64:=by
 unfold Tr;split
 ·obtain ⟨h1,h2,h3⟩:=TR (x / 4294967296) (by omega);have:=h2 (by omega);rw [Nat.pow_add];refine ⟨by omega,by omega,by omega⟩
 ·obtain ⟨h1,h2,h3⟩:=TR x (by omega);exact ⟨h1,h2,by omega⟩
theorem u8w {x:Int} (h:0<=x) (h':x < 256):IntKind.wrap .u8 x=x:=by rw [IntKind.wrap_u8];omega
theorem w48:IntKind.wrap .i64 48=48:=by decide
theorem w56:IntKind.wrap .i64 56=56:=by decide
theorem w40:IntKind.wrap .i64 40=40:=by decide
theorem w16:IntKind.wrap .i64 16=16:=by decide
theorem w24:IntKind.wrap .i64 24=24:=by decide
theorem w8:IntKind.wrap .i64 8=8:=by decide
theorem l8D {i:Nat}:(((len8[i]?).map fun x=>(x.toNat:Int)).getD 0)=(L8 i:Int):=by
 unfold L8;cases len8[i]?<;>simp
theorem aeP (i:Nat):L8 i<=255:=by
 unfold L8;cases len8[i]? with
 | none=>simp
 | some b=>simpa using Nat.le_of_lt_succ b.toNat_lt
theorem wL {c:Int} (h:0<=c/\c<=100) (i:Nat):IntKind.wrap .i64 (c+IntKind.wrap .i64 (L8 i:Int))=c+L8 i:=by
 have:=aeP i;rw [wrap64 (x:=(L8 i:Int)) (by omega) (by omega),wrap64 (by omega) (by omega)]
theorem RJ:len8.size=256:=by kernel_rfl
set_option maxRecDepth 20000 in
theorem T9 (x:Nat) (hx:x < 18446744073709551616):Abs.Spec Tryz.prog 210 [] [.int .u64 x] [] (.int .i64 (Tr x)):=by
 refine Abs.Spec.go (n:=25) (np:=1) (rs:=[.tmp 2]) mixed Tryz.func210 rfl rfl rfl rfl rfl (by simp) (by simp) ?_;simp only [go_sem,seval]
 repeat' (with_reducible first
  | apply And.intro
  | refine bH.split (fun h=>?_) (fun h=>?_)
  | refine fu.id ?_
  | simp only [*,go_sem,seval,lC,aaY,afe,w48,w56,w40,w16,w24,w8,aej])
 all_goals (simp only [decide_eq_true_eq,decide_eq_false_iff_not] at *)
 all_goals first
  | (rw [RJ,u8w (by omega) (by omega)];omega)
  | skip
 all_goals (rw [u8w (by omega) (by omega),Int.toNat_natCast,l8D])
 all_goals (simp only [Tr,Zs,L16])
 all_goals (repeat (rw [if_pos (by omega)]))
 all_goals (repeat (rw [if_neg (by omega)]))
 all_goals (repeat (rw [if_pos (by omega)]))
 all_goals (repeat (rw [if_neg (by omega)]))
 all_goals (repeat (rw [if_pos (by omega)]))
 all_goals (rw [wL (by omega)])
 all_goals omega
theorem Wz (x:Nat) (hx:x < 18446744073709551616):Abs.Spec Tryz.prog 261 [] [.int .u64 x] [] (.int .i64 ((64-Tr x:Nat):Int)):=by
 refine Abs.Spec.go (n:=6) (np:=1) (rs:=[.tmp 2]) mixed Tryz.func261 rfl rfl rfl rfl rfl (by simp) (by simp) ?_;simp only [go_sem,seval];refine aa.pure (T9 x hx) ?_;simp only [go_sem,seval];have:=(UQ x hx).2.2;rw [wrap64 (by omega) (by omega)];omega
theorem mF (a:Nat):aar .u64 (a:Int) 4294967295=((a%4294967296:Nat):Int):=by
 unfold aar;rw [BitVec.toNat_and,BitVec.toNat_ofInt,BitVec.toNat_ofInt];simp only [IntKind.bits];have h:((4294967295:Int)%((2 ^ 64:Nat):Int)).toNat=2 ^ 32-1:=by omega
 rw [h,Nat.and_two_pow_sub_one_eq_mod,IntKind.wrap_u64];omega
theorem Qy (a b:Nat):(a:Int).tdiv (b:Int)=((a / b:Nat):Int):=by rw [Int.tdiv_eq_ediv_of_nonneg (by omega)];rfl
theorem afM (a b:Nat):(a:Int).tmod (b:Int)=((a%b:Nat):Int):=by rw [Int.tmod_eq_emod_of_nonneg (by omega)];rfl
set_option maxRecDepth 20000 in
theorem yE (x y:Nat) (hx:x < 18446744073709551616) (hy:y < 18446744073709551616):Abs.Spec Tryz.prog 88 [] [.int .u64 x,.int .u64 y] [] (.bI [.int .u64 ((x*y / 18446744073709551616:Nat):Int),.int .u64 ((x*y%18446744073709551616:Nat):Int)]):=by
 obtain ⟨bd,bt,bw,hhi⟩:=Lib.mul64_hi x y hx hy;have ba:=Lib.half_mul_le (a:=x / 4294967296) (b:=y / 4294967296) (by omega) (by omega);have bb:=Lib.half_mul_le (a:=x / 4294967296) (b:=y%4294967296) (by omega) (by omega);have bc:=Lib.half_mul_le (a:=x%4294967296) (b:=y / 4294967296) (by omega) (by omega);have ba':x / 4294967296*(y / 4294967296) < 18446744073709551616:=by omega
 have bb':x / 4294967296*(y%4294967296) < 18446744073709551616:=by omega
 have bc':x%4294967296*(y / 4294967296) < 18446744073709551616:=by omega
 have bh1:x / 4294967296*(y / 4294967296)+(x / 4294967296*(y%4294967296)+x%4294967296*(y%4294967296) / 4294967296) / 4294967296 < 18446744073709551616:=by omega
 have bh:x / 4294967296*(y / 4294967296)+(x / 4294967296*(y%4294967296)+x%4294967296*(y%4294967296) / 4294967296) / 4294967296+((x / 4294967296*(y%4294967296)+x%4294967296*(y%4294967296) / 4294967296)%4294967296+x%4294967296*(y / 4294967296)) / 4294967296 < 18446744073709551616:=by omega
 refine Abs.Spec.go (n:=51) (np:=2) (rs:=[.tmp 4,.tmp 5]) mixed Tryz.func88 rfl rfl rfl rfl rfl (by simp) (by simp) ?_;simp only [mF,lC,go_sem,seval,Mul64.mulN,Mul64.addN,Mul64.wrapN _ bd,Mul64.wrapN _ bb',Mul64.wrapN _ bt,Mul64.wrapN _ bc',Mul64.wrapN _ bw,Mul64.wrapN _ ba',Mul64.wrapN _ bh1,Mul64.wrapN _ bh,Mul64.wrapM (x*y),hhi];exact Mul64.wrapN _ (hhi ▸ bh)
theorem Sq {s:Nat} (hs:s<=64):2 ^ (64-s)*2 ^ s=18446744073709551616:=by
 rw [<- Nat.pow_add,show 64-s+s=64 by omega]
theorem aih (hi lo y s:Nat) (hs:s<=64) (hh:hi < y) (hl:lo < 18446744073709551616) :
  lo / 2 ^ (64-s) < 2 ^ s/\hi*2 ^ s+lo / 2 ^ (64-s) < y*2 ^ s/\(hi*2 ^ s+lo / 2 ^ (64-s))*18446744073709551616+lo*2 ^ s%18446744073709551616=(hi*18446744073709551616+lo)*2 ^ s:=by
 have hp:=Sq hs
 have h1:lo / 2 ^ (64-s) < 2 ^ s:=by
  rw [Nat.div_lt_iff_lt_mul (Nat.two_pow_pos _),Nat.mul_comm,hp];exact hl
 refine ⟨h1,?_,?_⟩
 ·have h2:(hi+1)*2 ^ s<=y*2 ^ s:=Nat.mul_le_mul_right _ hh;rw [Nat.add_mul,Nat.one_mul] at h2;omega
 ·have h3:lo*2 ^ s / 18446744073709551616=lo / 2 ^ (64-s):=by
   rw [<- hp,Nat.mul_div_mul_right _ _ (Nat.two_pow_pos s)]
  have h4:=Nat.div_add_mod (lo*2 ^ s) 18446744073709551616;rw [h3] at h4;have h5:hi*18446744073709551616*2 ^ s=hi*2 ^ s*18446744073709551616:=by rw [Nat.mul_assoc,Nat.mul_comm 18446744073709551616,<- Nat.mul_assoc]
  rw [Nat.add_mul,Nat.add_mul,h5];omega
structure MO (un d a b q r:Nat):Prop where
 sum:q*a+r=un
 small:r < 4294967296
 top:q<=4294967297
 least:(un*4294967296+d) / (a*4294967296+b)<=q
section
variable {un d a b q r:Nat}
theorem qv (q a b:Nat):q*(a*4294967296+b)=q*a*4294967296+q*b:=by rw [Nat.mul_add,Nat.mul_assoc]
theorem MO.start (ha:2147483648<=a) (ha':a < 4294967296) (hb:b < 4294967296) (hd:d < 4294967296) (hu:un < a*4294967296+b):MO un d a b (un / a) (un%a):=by
 have hm:=Nat.div_add_mod un a;have hl:=Nat.mod_lt un (show 0 < a by omega)
 have hq:un / a<=4294967297:=by
  apply Nat.le_of_lt_succ;rw [Nat.div_lt_iff_lt_mul (by omega)];omega
 refine ⟨by rw [Nat.mul_comm];exact hm,by omega,hq,?_⟩;apply Nat.le_of_lt_succ;rw [Nat.div_lt_iff_lt_mul (by omega),Nat.succ_eq_add_one,qv,Nat.add_mul,Nat.one_mul];have:un / a*a=a*(un / a):=Nat.mul_comm _ _;omega
theorem MO.stop (h:MO un d a b q r) (hv:0 < a) (h1:q*b<=4294967296*r+d):q=(un*4294967296+d) / (a*4294967296+b):=by
 refine Nat.le_antisymm ?_ h.least;rw [Nat.le_div_iff_mul_le (by omega),qv];have:=h.sum;omega
theorem MO.step (h:MO un d a b q r) (hu:un < a*4294967296+b) (hd:d < 4294967296) (h1:4294967296<=q\/4294967296*r+d < q*b) :
  0 < q/\(q-1)*a+(r+a)=un/\q-1<=4294967296/\(un*4294967296+d) / (a*4294967296+b)<=q-1:=by
 have hq:0 < q:=by
  rcases h1 with h1 | h1
  ·omega
  ·rcases Nat.eq_zero_or_pos q with h0 | h0
   ·subst h0;omega
   ·exact h0
 obtain ⟨p,rfl⟩:∃ p,q=p+1:=⟨q-1,by omega⟩
 have hs:=h.sum;rw [Nat.add_mul,Nat.one_mul] at hs;have ht:=h.top;refine ⟨hq,by simp only [Nat.add_sub_cancel];omega,by omega,?_⟩;simp only [Nat.add_sub_cancel];apply Nat.le_of_lt_succ;rw [Nat.div_lt_iff_lt_mul (by omega),Nat.succ_eq_add_one,qv];have e1:(p+1)*a=p*a+a:=by rw [Nat.add_mul,Nat.one_mul]
 have e2:(p+1)*b=p*b+b:=by rw [Nat.add_mul,Nat.one_mul]
 rw [e1];rcases h1 with h1 | h1
 ·have:4294967296*b<=(p+1)*b:=Nat.mul_le_mul_right _ h1;have h2:4294967296*a<=(p+1)*a:=Nat.mul_le_mul_right _ h1;omega
 ·have:=h.small;omega
theorem MO.brk (hsum:q*a+r=un) (ht:q<=4294967296) (hl:(un*4294967296+d) / (a*4294967296+b)<=q) (hb:b < 4294967296) (hv:0 < a) (hr:4294967296<=r):q=(un*4294967296+d) / (a*4294967296+b):=by
 refine Nat.le_antisymm ?_ hl;rw [Nat.le_div_iff_mul_le (by omega),qv];have h1:q*b<=4294967296*4294967296:=Nat.mul_le_mul ht (by omega);omega
end
theorem two (N un W v:Nat) (hN:un*18446744073709551616+W=N) (hW:W < 18446744073709551616) (hv:0 < v) (hu:un < v) :
  N / v=(un*4294967296+W / 4294967296) / v*4294967296+((un*4294967296+W / 4294967296)%v*4294967296+W%4294967296) / v /\
  N%v=((un*4294967296+W / 4294967296)%v*4294967296+W%4294967296)%v:=by
 have e1:=Nat.div_add_mod (un*4294967296+W / 4294967296) v
 have hN':N=((un*4294967296+W / 4294967296)%v*4294967296+W%4294967296)+v*((un*4294967296+W / 4294967296) / v*4294967296):=by
  rw [<- Nat.mul_assoc];omega
 constructor
 ·rw [hN',Nat.add_mul_div_left _ _ hv,Nat.add_comm]
 ·rw [hN',Nat.add_mul_mod_self_left]
theorem ZR (a k:Nat) (hk:k<=64):DJ .u64 (a:Int) (k:Int)=((a*2 ^ k%18446744073709551616:Nat):Int):=by
 unfold DJ;have h1:min (Int.toNat (k:Int)) (IntKind.bits .u64)=k:=by simp [IntKind.bits];omega
 rw [h1,IntKind.wrap_u64,Int.natCast_emod,Int.natCast_mul,Int.natCast_pow];rfl
theorem orN (a b k:Nat) (hb:b < 2 ^ k) (h:a*2 ^ k+b < 18446744073709551616):ior .u64 ((a*2 ^ k:Nat):Int) (b:Int)=((a*2 ^ k+b:Nat):Int):=by
 unfold ior;rw [BitVec.toNat_or,BitVec.toNat_ofInt,BitVec.toNat_ofInt];simp only [IntKind.bits];have h1:(((a*2 ^ k:Nat):Int)%((2 ^ 64:Nat):Int)).toNat=a*2 ^ k:=by omega
 have h2:((b:Int)%((2 ^ 64:Nat):Int)).toNat=b:=by omega
 rw [h1,h2,Nat.mul_comm a,<- Nat.two_pow_add_eq_or_of_lt hb,Nat.mul_comm,IntKind.wrap_u64];omega
theorem adA (a b X m:Int) (h:X+m=a+b) (h0:0<=m) (h1:m < 18446744073709551616):IntKind.wrap .u64 (IntKind.wrap .u64 (IntKind.wrap .u64 a+b)-IntKind.wrap .u64 X)=m:=by
 simp only [IntKind.wrap_u64];rw [Int.emod_add_emod,<- Int.sub_emod,<- h,show X+m-X=m by omega];exact Int.emod_eq_of_lt h0 h1
theorem adF (un w v q m:Nat) (hq:q=(un*4294967296+w) / v) (hm:m=(un*4294967296+w)%v) (hv:m < v) (hv2:v < 18446744073709551616):IntKind.wrap .u64 (IntKind.wrap .u64 (IntKind.wrap .u64 ((un:Int)*4294967296)+(w:Int))-IntKind.wrap .u64 ((q:Int)*(v:Int)))=(m:Int):=by
 have h0:=Nat.div_add_mod (un*4294967296+w) v;rw [<- hm,<- hq,Nat.mul_comm v] at h0;refine adA _ _ _ _ ?_ (Int.natCast_nonneg _) ?_
 ·rw [Mul64.mulN];generalize q*v=x at h0 |-;omega
 ·omega
theorem ai0 (q q0 Q:Nat) (h:q*4294967296+q0=Q) (hQ:Q < 18446744073709551616):IntKind.wrap .u64 (IntKind.wrap .u64 ((q:Int)*4294967296)+(q0:Int))=(Q:Int):=by
 simp only [IntKind.wrap_u64];omega
set_option maxRecDepth 20000 in
set_option maxHeartbeats 1000000 in
theorem GL (hi lo y:Nat) (hy:y < 18446744073709551616) (hh:hi < y) (hl:lo < 18446744073709551616):Abs.Spec Tryz.prog 225 [] [.int .u64 hi,.int .u64 lo,.int .u64 y] [] (.bI [.int .u64 ((hi*18446744073709551616+lo) / y:Nat),.int .u64 ((hi*18446744073709551616+lo)%y:Nat)]):=by
 have h1:((y:Int)==0)=false:=by simp;omega
 have h2:decide ((y:Int)<=hi)=false:=by simp;omega
 refine Abs.Spec.go (n:=135) (np:=3) (rs:=[.tmp 6,.tmp 7]) mixed Tryz.func225 rfl rfl rfl rfl rfl (by simp) (by simp) ?_;simp only [mF,lC,go_sem,seval,h1,h2];refine bH.split (fun h=>?_) (fun h=>?_)
 ·simp only [mF,lC,go_sem,seval,h1,h2,h];have:hi=0:=by simpa using h
  subst this;refine ⟨gX.mk (by kernel_rfl),?_,?_,?_,?_⟩
  ·omega
  ·omega
  ·rw [Qy,Mul64.wrapN]
   ·simp
   ·exact Nat.lt_of_le_of_lt (Nat.div_le_self _ _) hl
  ·rw [afM];simp
 ·obtain ⟨l1,l2,l3⟩:=UQ y hy;have l2:=l2 (by omega);obtain ⟨s,hs⟩:=aH (64-Tr y);have hs64:s<=64:=by omega
  have hp:2 ^ Tr y*2 ^ s=18446744073709551616:=by rw [<- Nat.pow_add,show Tr y+s=64 by omega]
  have hv1:y*2 ^ s < 18446744073709551616:=by rw [<- hp];exact Nat.mul_lt_mul_of_pos_right l1 (Nat.two_pow_pos s)
  have hv2:18446744073709551616<=2*(y*2 ^ s):=by rw [<- hp,<- Nat.mul_assoc];exact Nat.mul_le_mul_right _ l2
  obtain ⟨p1,p2,p3⟩:=aih hi lo y s hs64 hh hl;obtain ⟨v,hv⟩:=aH (y*2 ^ s);obtain ⟨un,hun⟩:=aH (hi*2 ^ s+lo / 2 ^ (64-s));obtain ⟨W,hW⟩:=aH (lo*2 ^ s%18446744073709551616);have hvl:v < 18446744073709551616:=by rw [hv];exact hv1
  have hvg:18446744073709551616<=2*v:=by rw [hv];exact hv2
  have huv:un < v:=by rw [hun,hv];exact p2
  have hA:hi*2 ^ s<=un:=by rw [hun];exact Nat.le_add_right _ _
  have hWl:W < 18446744073709551616:=by rw [hW];exact Nat.mod_lt _ (by decide)
  have e1:IntKind.wrap .u64 ((64-Tr y:Nat):Int)=(s:Int):=by rw [<- hs,Mul64.wrapN _ (by omega)]
  have e2:DJ .u64 (y:Int) (s:Int)=(v:Int):=by rw [ZR _ _ hs64,hv,Nat.mod_eq_of_lt hv1]
  have e3:IntKind.wrap .u64 (64-(s:Int))=((64-s:Nat):Int):=by rw [IntKind.wrap_u64];omega
  have e4:DJ .u64 (hi:Int) (s:Int)=((hi*2 ^ s:Nat):Int):=by rw [ZR _ _ hs64,Nat.mod_eq_of_lt (Nat.lt_of_le_of_lt hA (Nat.lt_trans huv hvl))]
  have e5:BP .u64 (lo:Int) ((64-s:Nat):Int)=((lo / 2 ^ (64-s):Nat):Int):=RY _ _ (by omega);have e6:ior .u64 ((hi*2 ^ s:Nat):Int) ((lo / 2 ^ (64-s):Nat):Int)=(un:Int):=by rw [orN _ _ _ p1 (Nat.lt_trans p2 hv1),hun]
  have e7:DJ .u64 (lo:Int) (s:Int)=(W:Int):=by rw [ZR _ _ hs64,hW]
  have hva:v=v / 4294967296*4294967296+v%4294967296:=by omega
  have e8:IntKind.wrap .u64 ((un / (v / 4294967296):Nat):Int)=((un / (v / 4294967296):Nat):Int):=Mul64.wrapN _ (Nat.lt_of_le_of_lt (Nat.div_le_self _ _) (by omega));have d1:MO un (W / 4294967296) (v / 4294967296) (v%4294967296) (un / (v / 4294967296)) (un%(v / 4294967296)):=MO.start (by omega) (by omega) (by omega) (by omega) (by omega)
  have e9:IntKind.wrap .u64 ((un:Int)-IntKind.wrap .u64 (((un / (v / 4294967296):Nat):Int)*((v / 4294967296:Nat):Int)))=((un%(v / 4294967296):Nat):Int):=by
   have:=d1.sum;rw [Mul64.mulN,Mul64.wrapN _ (by omega),IntKind.wrap_u64];omega
  simp only [mF,lC,go_sem,seval,h1,h2,h];refine aa.pure (Wz y hy) ?_;simp only [mF,lC,go_sem,seval,h1,h2,h,e1,e2,e3,e4,e5,e6,e7,Qy,e8,e9]
  repeat (refine And.intro (by omega) ?_)
  have fin:∀ x:Nat,(hi*18446744073709551616+lo)*2 ^ s / v=x->x=(hi*18446744073709551616+lo) / y:=fun x hx=>by
   rw [<- hx,hv,Nat.mul_div_mul_right _ _ (Nat.two_pow_pos s)]
  have fin2:∀ x:Nat,(hi*18446744073709551616+lo)*2 ^ s%v=x->x / 2 ^ s=(hi*18446744073709551616+lo)%y:=fun x hx=>by
   rw [<- hx,hv,Nat.mul_mod_mul_right,Nat.mul_div_cancel _ (Nat.two_pow_pos s)]
  obtain ⟨t1,t2⟩:=two ((hi*18446744073709551616+lo)*2 ^ s) un W v (by rw [hun,hW];exact p3) hWl (by omega) huv;have fin:=fin _ t1;have fin2:=fin2 _ t2;have hsr:∀ a:Nat,BP .u64 (a:Int) (s:Int)=((a / 2 ^ s:Nat):Int):=fun a=>RY a s hs64
  clear p1 p2 p3 hv1 hv2 hp hW hun hA e1 e2 e3 e4 e5 e6 e7 l1 l2 l3 t1 t2 hv hs;have vpos:0 < v / 4294967296:=by omega
  obtain ⟨m,hm⟩:=aH ((un*4294967296+W / 4294967296)%v);have hmv:m < v:=by rw [hm];exact Nat.mod_lt _ (by omega)
  have hmv':m < v / 4294967296*4294967296+v%4294967296:=by rw [<- hva];exact hmv
  obtain ⟨q1,hq1⟩:=aH ((un*4294967296+W / 4294967296) / v);rw [<- hm,<- hq1] at fin;rw [<- hm] at fin2;have huv':un < v / 4294967296*4294967296+v%4294967296:=by rw [<- hva];exact huv
  have hvr:=hva.symm;refine Ma (T:=Unit) (fun _=>[(2,.int .u64 v),(6,.int .u64 0),(7,.int .u64 0),(8,.int .u64 s),(9,.int .u64 (v / 4294967296:Nat)),(10,.int .u64 (v%4294967296:Nat)),(11,.int .u64 un),(13,.int .u64 (W / 4294967296:Nat)),(14,.int .u64 (W%4294967296:Nat)),(15,.int .u64 q1)]) (fun _=>[]) (fun _=>True) (by rfl) ?_ ?_
  ·rintro ⟨⟩ -
   have e10:=adF un (W / 4294967296) v q1 m hq1 hm hmv hvl;have e11:IntKind.wrap .u64 ((m / (v / 4294967296):Nat):Int)=((m / (v / 4294967296):Nat):Int):=Mul64.wrapN _ (Nat.lt_of_le_of_lt (Nat.div_le_self _ _) (by omega));have d2:MO m (W%4294967296) (v / 4294967296) (v%4294967296) (m / (v / 4294967296)) (m%(v / 4294967296)):=MO.start (by omega) (by omega) (by omega) (by omega) hmv'
   have e12:IntKind.wrap .u64 ((m:Int)-IntKind.wrap .u64 (((m / (v / 4294967296):Nat):Int)*((v / 4294967296:Nat):Int)))=((m%(v / 4294967296):Nat):Int):=by
    have:=d2.sum;rw [Mul64.mulN,Mul64.wrapN _ (by omega),IntKind.wrap_u64];omega
   simp only [mF,lC,go_sem,seval,Qy,e10,e11,e12]
   repeat (refine And.intro (by omega) ?_)
   refine Ma (T:=Unit) (fun _=>[(2,.int .u64 v),(8,.int .u64 s),(14,.int .u64 (W%4294967296:Nat)),(15,.int .u64 q1),(17,.int .u64 m),(18,.int .u64 ((m*4294967296+W%4294967296) / v:Nat))]) (fun _=>[]) (fun _=>True) (by rfl) ?_ ?_
   ·rintro ⟨⟩ -
    simp only [mF,lC,go_sem,seval,Qy]
    have g1:IntKind.wrap .u64 (IntKind.wrap .u64 ((q1:Int)*4294967296)+(((m*4294967296+W%4294967296) / v:Nat):Int))=(((hi*18446744073709551616+lo) / y:Nat):Int):=by
     have hQ:(hi*18446744073709551616+lo) / y < 18446744073709551616:=by
      rw [Nat.div_lt_iff_lt_mul (by omega)];omega
     exact ai0 q1 _ _ fin hQ
    have g2:=adF m (W%4294967296) v ((m*4294967296+W%4294967296) / v) ((m*4294967296+W%4294967296)%v) rfl rfl (Nat.mod_lt _ (by omega)) hvl;rw [g1,g2,hsr,fin2];exact ⟨rfl,rfl⟩
   refine ⟨Nat × Nat,fun x=>[(2,.int .u64 v),(6,.int .u64 0),(7,.int .u64 0),(8,.int .u64 s),(9,.int .u64 (v / 4294967296:Nat)),(10,.int .u64 (v%4294967296:Nat)),(14,.int .u64 (W%4294967296:Nat)),(15,.int .u64 q1),(17,.int .u64 m),(18,.int .u64 x.1),(16,.int .u64 x.2)],fun _=>[],fun x=>MO m (W%4294967296) (v / 4294967296) (v%4294967296) x.1 x.2,fun x=>x.1,(m / (v / 4294967296),m%(v / 4294967296)),d2,?_,?_⟩
   ·simp only [go_sem,seval]
   ·rintro ⟨q,r⟩ dg
    simp only at dg;have hsm:=dg.small;have htp:=dg.top;have hsum:=dg.sum;have f1:IntKind.wrap .u64 (4294967296*(r:Int))=((4294967296*r:Nat):Int):=by rw [IntKind.wrap_u64];omega
    have f2:IntKind.wrap .u64 (((4294967296*r:Nat):Int)+((W%4294967296:Nat):Int))=((4294967296*r+W%4294967296:Nat):Int):=by rw [IntKind.wrap_u64];omega
    have f4:IntKind.wrap .u64 ((r:Int)+((v / 4294967296:Nat):Int))=((r+v / 4294967296:Nat):Int):=by rw [IntKind.wrap_u64];omega
    have step:(4294967296<=q\/4294967296*r+W%4294967296 < q*(v%4294967296))->IntKind.wrap .u64 ((q:Int)-1)=((q-1:Nat):Int):=fun hx=>by
     have:=(dg.step hmv' (by omega) hx).1;rw [IntKind.wrap_u64];omega
    simp only [mF,lC,go_sem,seval];refine bY.aS (fun hq=>?_) (fun hq=>?_)
    ·have hq':q < 4294967296:=by simp at hq;omega
     have hb:q*(v%4294967296) < 18446744073709551616:=by
      have:=Nat.mul_le_mul (show q<=4294967295 by omega) (show v%4294967296<=4294967295 by omega);omega
     simp only [mF,lC,go_sem,seval,hq,f1,f2,Mul64.mulN,Mul64.wrapN _ hb];refine bH.split (fun hc=>?_) (fun hc=>?_)
     ·have hx:4294967296*r+W%4294967296 < q*(v%4294967296):=by rw [decide_eq_true_eq] at hc;exact_mod_cast hc
      obtain ⟨s1,s2,s3,s4⟩:=dg.step hmv' (by omega) (.inr hx);simp only [go_sem,seval,step (.inr hx),f4];refine bH.split (fun hr=>?_) (fun hr=>?_)
      ·simp only [go_sem,seval];have hqt:=MO.brk s2 s3 s4 (by omega) vpos (by rw [decide_eq_true_eq] at hr;omega);rw [hvr] at hqt;refine ⟨(),trivial,?_⟩;simp only [go_sem,seval,hqt]
      ·simp only [go_sem,seval];refine ⟨(q-1,r+v / 4294967296),⟨s2,by rw [decide_eq_false_iff_not] at hr;omega,by omega,s4⟩,?_,by simp only;omega⟩;simp only [go_sem,seval]
     ·simp only [go_sem,seval];have hqt:=dg.stop vpos (by rw [decide_eq_false_iff_not] at hc;have hc':=Int.not_lt.1 hc;exact_mod_cast hc');rw [hvr] at hqt;refine ⟨(),trivial,?_⟩;simp only [go_sem,seval,hqt]
    ·have hx:4294967296<=q:=by simp at hq;omega
     obtain ⟨s1,s2,s3,s4⟩:=dg.step hmv' (by omega) (.inl hx);simp only [mF,lC,go_sem,seval,hq,step (.inl hx),f4];refine bH.split (fun hr=>?_) (fun hr=>?_)
     ·simp only [go_sem,seval];have hqt:=MO.brk s2 s3 s4 (by omega) vpos (by rw [decide_eq_true_eq] at hr;omega);rw [hvr] at hqt;refine ⟨(),trivial,?_⟩;simp only [go_sem,seval,hqt]
     ·simp only [go_sem,seval];refine ⟨(q-1,r+v / 4294967296),⟨s2,by rw [decide_eq_false_iff_not] at hr;omega,by omega,s4⟩,?_,by simp only;omega⟩;simp only [go_sem,seval]

  refine ⟨Nat × Nat,fun x=>[(2,.int .u64 v),(6,.int .u64 0),(7,.int .u64 0),(8,.int .u64 s),(9,.int .u64 (v / 4294967296:Nat)),(10,.int .u64 (v%4294967296:Nat)),(11,.int .u64 un),(13,.int .u64 (W / 4294967296:Nat)),(14,.int .u64 (W%4294967296:Nat)),(15,.int .u64 x.1),(16,.int .u64 x.2)],fun _=>[],fun x=>MO un (W / 4294967296) (v / 4294967296) (v%4294967296) x.1 x.2,fun x=>x.1,(un / (v / 4294967296),un%(v / 4294967296)),d1,?_,?_⟩
  ·simp only [go_sem,seval]
  ·rintro ⟨q,r⟩ dg
   simp only at dg;have hsm:=dg.small;have htp:=dg.top;have hsum:=dg.sum;have f1:IntKind.wrap .u64 (4294967296*(r:Int))=((4294967296*r:Nat):Int):=by rw [IntKind.wrap_u64];omega
   have f2:IntKind.wrap .u64 (((4294967296*r:Nat):Int)+((W / 4294967296:Nat):Int))=((4294967296*r+W / 4294967296:Nat):Int):=by rw [IntKind.wrap_u64];omega
   have f4:IntKind.wrap .u64 ((r:Int)+((v / 4294967296:Nat):Int))=((r+v / 4294967296:Nat):Int):=by rw [IntKind.wrap_u64];omega
   have step:(4294967296<=q\/4294967296*r+W / 4294967296 < q*(v%4294967296))->IntKind.wrap .u64 ((q:Int)-1)=((q-1:Nat):Int):=fun hx=>by
    have:=(dg.step huv' (by omega) hx).1;rw [IntKind.wrap_u64];omega
   simp only [mF,lC,go_sem,seval];refine bY.aS (fun hq=>?_) (fun hq=>?_)
   ·have hq':q < 4294967296:=by simp at hq;omega
    have hb:q*(v%4294967296) < 18446744073709551616:=by
     have:=Nat.mul_le_mul (show q<=4294967295 by omega) (show v%4294967296<=4294967295 by omega);omega
    simp only [mF,lC,go_sem,seval,hq,f1,f2,Mul64.mulN,Mul64.wrapN _ hb];refine bH.split (fun hc=>?_) (fun hc=>?_)
    ·have hx:4294967296*r+W / 4294967296 < q*(v%4294967296):=by rw [decide_eq_true_eq] at hc;exact_mod_cast hc
     obtain ⟨s1,s2,s3,s4⟩:=dg.step huv' (by omega) (.inr hx);simp only [go_sem,seval,step (.inr hx),f4];refine bH.split (fun hr=>?_) (fun hr=>?_)
     ·simp only [go_sem,seval];have hqt:=MO.brk s2 s3 s4 (by omega) vpos (by rw [decide_eq_true_eq] at hr;omega);rw [hvr,<- hq1] at hqt;refine ⟨(),trivial,?_⟩;simp only [go_sem,seval,hqt]
     ·simp only [go_sem,seval];refine ⟨(q-1,r+v / 4294967296),⟨s2,by rw [decide_eq_false_iff_not] at hr;omega,by omega,s4⟩,?_,by simp only;omega⟩;simp only [go_sem,seval]
    ·simp only [go_sem,seval];have hqt:=dg.stop vpos (by rw [decide_eq_false_iff_not] at hc;have hc':=Int.not_lt.1 hc;exact_mod_cast hc');rw [hvr,<- hq1] at hqt;refine ⟨(),trivial,?_⟩;simp only [go_sem,seval,hqt]
   ·have hx:4294967296<=q:=by simp at hq;omega
    obtain ⟨s1,s2,s3,s4⟩:=dg.step huv' (by omega) (.inl hx);simp only [mF,lC,go_sem,seval,hq,step (.inl hx),f4];refine bH.split (fun hr=>?_) (fun hr=>?_)
    ·simp only [go_sem,seval];have hqt:=MO.brk s2 s3 s4 (by omega) vpos (by rw [decide_eq_true_eq] at hr;omega);rw [hvr,<- hq1] at hqt;refine ⟨(),trivial,?_⟩;simp only [go_sem,seval,hqt]
    ·simp only [go_sem,seval];refine ⟨(q-1,r+v / 4294967296),⟨s2,by rw [decide_eq_false_iff_not] at hr;omega,by omega,s4⟩,?_,by simp only;omega⟩;simp only [go_sem,seval]
theorem adE {a:Int}:∃ u:Nat,IntKind.wrap .u64 a=(u:Int)/\u < 18446744073709551616/\(u:Int)=a%18446744073709551616:=by
 refine ⟨(a%18446744073709551616).toNat,?_,?_,?_⟩
 ·rw [IntKind.wrap_u64];omega
 ·omega
 ·omega
theorem hi1 (x:Nat) (P:Int) (h:(x:Int)=P) (hP:-85070591730234615865843651857942052864<=P/\P<=85070591730234615865843651857942052864):IntKind.wrap .i64 ((x / 18446744073709551616:Nat):Int)=P / 18446744073709551616/\((x%18446744073709551616:Nat):Int)=P%18446744073709551616:=by
 rw [IntKind.wrap_i64];omega
theorem hi2 (x:Nat) (P b:Int) (h:(x:Int)=P+18446744073709551616*b) (hP:-85070591730234615865843651857942052864<=P/\P<=85070591730234615865843651857942052864):IntKind.wrap .i64 (IntKind.wrap .u64 (((x / 18446744073709551616:Nat):Int)-b%18446744073709551616))=P / 18446744073709551616/\((x%18446744073709551616:Nat):Int)=P%18446744073709551616:=by
 rw [IntKind.wrap_i64,IntKind.wrap_u64];omega
theorem hi3 (x:Nat) (P a b:Int) (h:(x:Int)=P+18446744073709551616*a+18446744073709551616*b+18446744073709551616*18446744073709551616) (hP:-85070591730234615865843651857942052864<=P/\P<=85070591730234615865843651857942052864) :
  IntKind.wrap .i64 (IntKind.wrap .u64 (IntKind.wrap .u64 (((x / 18446744073709551616:Nat):Int)-b%18446744073709551616)-a%18446744073709551616))=P / 18446744073709551616/\((x%18446744073709551616:Nat):Int)=P%18446744073709551616:=by
 rw [IntKind.wrap_i64,IntKind.wrap_u64,IntKind.wrap_u64];omega
theorem Yi (a b:Int) (ha:-9223372036854775808<=a/\a<=9223372036854775807) (hb:-9223372036854775808<=b/\b<=9223372036854775807):-85070591730234615865843651857942052864<=a*b/\a*b<=85070591730234615865843651857942052864:=by
 have h1:(a*b).natAbs<=9223372036854775808*9223372036854775808:=by
  rw [Int.natAbs_mul];exact Nat.mul_le_mul (by omega) (by omega)
 omega
section
variable {a b:Int} {u w:Nat}
theorem Xz (hu:(u:Int)=a%18446744073709551616) (hw:(w:Int)=b%18446744073709551616) (ha:-9223372036854775808<=a/\a<=9223372036854775807) (hb:-9223372036854775808<=b/\b<=9223372036854775807) (h1:a < 0) (h2:b < 0) :
  ((u*w:Nat):Int)=a*b+18446744073709551616*a+18446744073709551616*b+18446744073709551616*18446744073709551616:=by
 have e1:(u:Int)=a+18446744073709551616:=by omega
 have e2:(w:Int)=b+18446744073709551616:=by omega
 rw [Int.natCast_mul,e1,e2,Int.add_mul,Int.mul_add,Int.mul_add,Int.mul_comm a 18446744073709551616,Int.add_assoc,Int.add_assoc,Int.add_assoc]
theorem Yg (hu:(u:Int)=a%18446744073709551616) (hw:(w:Int)=b%18446744073709551616) (ha:-9223372036854775808<=a/\a<=9223372036854775807) (hb:-9223372036854775808<=b/\b<=9223372036854775807) (h1:a < 0) (h2:¬ b < 0) :
  ((u*w:Nat):Int)=a*b+18446744073709551616*b:=by
 have e1:(u:Int)=a+18446744073709551616:=by omega
 have e2:(w:Int)=b:=by omega
 rw [Int.natCast_mul,e1,e2,Int.add_mul]
theorem UR (hu:(u:Int)=a%18446744073709551616) (hw:(w:Int)=b%18446744073709551616) (ha:-9223372036854775808<=a/\a<=9223372036854775807) (hb:-9223372036854775808<=b/\b<=9223372036854775807) (h1:¬ a < 0) (h2:b < 0) :
  ((u*w:Nat):Int)=a*b+18446744073709551616*a:=by
 have e1:(u:Int)=a:=by omega
 have e2:(w:Int)=b+18446744073709551616:=by omega
 rw [Int.natCast_mul,e1,e2,Int.mul_add,Int.mul_comm a 18446744073709551616]
theorem YG (hu:(u:Int)=a%18446744073709551616) (hw:(w:Int)=b%18446744073709551616) (ha:-9223372036854775808<=a/\a<=9223372036854775807) (hb:-9223372036854775808<=b/\b<=9223372036854775807) (h1:¬ a < 0) (h2:¬ b < 0) :
  ((u*w:Nat):Int)=a*b:=by
 have e1:(u:Int)=a:=by omega
 have e2:(w:Int)=b:=by omega
 rw [Int.natCast_mul,e1,e2]
end
theorem yj (a b:Int) (ha:-9223372036854775808<=a/\a<=9223372036854775807) (hb:-9223372036854775808<=b/\b<=9223372036854775807):Abs.Spec Tryz.prog 76 [] [.int .i64 a,.int .i64 b] [] (.agg [.int .i64 (a*b / 18446744073709551616),.int .u64 (a*b%18446744073709551616)]):=by
 obtain ⟨u,hu,hu2,hu3⟩:=adE (a:=a);obtain ⟨w,hw,hw2,hw3⟩:=adE (a:=b);refine Abs.Spec.go (n:=31) (np:=2) (rs:=[.cell 4 117]) mixed Tryz.func76 rfl rfl rfl rfl rfl (by simp) (by simp) ?_;simp only [go_sem,seval,hu,hw]
 repeat' (with_reducible first
  | apply And.intro
  | exact gX.mk (by kernel_rfl)
  | exact B1.mk (by kernel_rfl)
  | refine aa.pure (yE _ _ hu2 hw2) ?_
  | refine bH.split (fun h=>?_) (fun h=>?_)
  | refine fu.id ?_
  | simp only [*,go_sem,seval])
 all_goals (simp only [decide_eq_true_eq,decide_eq_false_iff_not] at *)
 all_goals (have hP:=Yi a b ha hb)
 all_goals (clear hu hw)
 all_goals first
  | exact (hi3 _ _ _ _ (Xz hu3 hw3 ha hb ‹_› ‹_›) hP).1
  | exact (hi3 _ _ _ _ (Xz hu3 hw3 ha hb ‹_› ‹_›) hP).2
  | exact (hi2 _ _ _ (Yg hu3 hw3 ha hb ‹_› ‹_›) hP).1
  | exact (hi2 _ _ _ (Yg hu3 hw3 ha hb ‹_› ‹_›) hP).2
  | exact (hi2 _ _ _ (UR hu3 hw3 ha hb ‹_› ‹_›) hP).1
  | exact (hi2 _ _ _ (UR hu3 hw3 ha hb ‹_› ‹_›) hP).2
  | exact (hi1 _ _ (YG hu3 hw3 ha hb ‹_› ‹_›) hP).1
  | exact (hi1 _ _ (YG hu3 hw3 ha hb ‹_› ‹_›) hP).2
theorem aiG (x:Nat) (h:x < 18446744073709551616):Wb .u64 (x:Int)=((18446744073709551615-x:Nat):Int):=by
 unfold Wb;have h1:BitVec.ofInt 64 (if IntKind.signed .u64 then -1 else IntKind.max .u64)=BitVec.allOnes 64:=by decide
 show IntKind.wrap .u64 (((BitVec.ofInt 64 (if IntKind.signed .u64 then -1 else IntKind.max .u64) ^^^ BitVec.ofInt 64 (x:Int)).toNat:Nat):Int)=_
 rw [h1,BitVec.allOnes_xor,BitVec.toNat_not,BitVec.toNat_ofInt,IntKind.wrap_u64];omega
def Fv (P n:Int):Int:=if n<=0 then 0 else if bL (P / n) then P / n else 0
def Ts (P n:Int):Int:=if n<=0 then 0 else if bL (P / n) then P%n else 0
def Hl (P n:Int):Int:=if n<=0 then 2 else if bL (P / n) then 0 else 1
theorem ZE {P n:Int} (hn:0 < n) (h:bL (P / n)=true):Fv P n=P / n/\Ts P n=P%n/\Hl P n=0:=by
 simp [Fv,Ts,Hl,h,show ¬ n<=0 by omega]
theorem Xc {P n:Int} (hn:0 < n) (h:bL (P / n)=false):Fv P n=0/\Ts P n=0/\Hl P n=1:=by
 simp [Fv,Ts,Hl,h,show ¬ n<=0 by omega]
theorem mG (x:Int):right [x]=bL x:=by simp [right]
theorem Xl (P:Nat) (n:Int) (hn:0 < n/\n<=9223372036854775807) (hP:P < 170141183460469231731687303715884105728):Abs.Spec Tryz.prog 222 [] [.agg [.int .i64 ((P / 18446744073709551616:Nat):Int),.int .u64 ((P%18446744073709551616:Nat):Int)],.int .i64 n] [] (.bI [.int .i64 (Fv P n),.int .i64 (Ts P n),.int .i64 (Hl P n)]):=by
 obtain ⟨N,rfl⟩:∃ N:Nat,n=N:=⟨n.toNat,by omega⟩
 obtain ⟨H,hH⟩:=aH (P / 18446744073709551616);obtain ⟨L,hL⟩:=aH (P%18446744073709551616);have hN:0 < N:=by omega
 have hHL:H*18446744073709551616+L=P:=by omega
 have hLl:L < 18446744073709551616:=by omega
 have hHl:H < 9223372036854775808:=by omega
 rw [<- hH,<- hL];obtain ⟨Q,hQ⟩:=aH (P / N);obtain ⟨R,hR⟩:=aH (P%N);have hQi:(P:Int) / (N:Int)=(Q:Int):=by rw [hQ];rfl
 have hRi:(P:Int)%(N:Int)=(R:Int):=by rw [hR];rfl
 have hRN:R < N:=by rw [hR];exact Nat.mod_lt _ hN
 have hd:=GL H L N (by omega);rw [hHL,<- hQ,<- hR] at hd
 have hbig:N<=H->18446744073709551616<=Q:=fun h=>by
  rw [hQ,Nat.le_div_iff_mul_le hN];have:=Nat.mul_le_mul_left 18446744073709551616 h;omega
 have c1:decide ((N:Int)<=0)=false:=by simp;omega
 have c2:decide ((H:Int) < 0)=false:=by simp
 have c3:IntKind.wrap .u64 (H:Int)=H:=Mul64.wrapN _ (by omega);have c4:IntKind.wrap .u64 (N:Int)=N:=Mul64.wrapN _ (by omega);have hin:=ZE (P:=P) (n:=N) (by omega);have hout:=Xc (P:=P) (n:=N) (by omega);rw [hQi] at hin hout;rw [hRi] at hin;clear hQ hR hQi hRi;refine Abs.Spec.go (n:=59) (np:=2) (rs:=[.tmp 4,.tmp 5,.tmp 6]) mixed Tryz.func222 rfl rfl rfl rfl rfl (by simp) (by simp) ?_;simp only [go_sem,seval,c1,c2,c3,c4]
 repeat' (with_reducible first
  | apply And.intro
  | exact gX.mk (by kernel_rfl)
  | exact B1.mk (by kernel_rfl)
  | simp only [go_sem,seval,c1,c2,c3,c4])
 refine bH.split (fun h=>?_) (fun h=>?_)
 ·simp only [go_sem,seval];have h:=hbig (by rw [decide_eq_true_eq] at h;omega);obtain ⟨q1,q2,q3⟩:=hout (by simp [bL];omega);rw [q1,q2,q3];exact ⟨rfl,rfl,rfl⟩
 ·have hNH:H < N:=by rw [decide_eq_false_iff_not] at h;omega
  simp only [go_sem,seval,c1,c2,c3,c4];refine aa.pure (hd hNH hLl) ?_;simp only [go_sem,seval];refine bH.split (fun hb=>?_) (fun hb=>?_)
  ·simp only [go_sem,seval];obtain ⟨q1,q2,q3⟩:=hout (by rw [decide_eq_true_eq] at hb;simp [bL];omega);rw [q1,q2,q3];exact ⟨rfl,rfl,rfl⟩
  ·rw [decide_eq_false_iff_not] at hb;have c5:IntKind.wrap .i64 (Q:Int)=Q:=wrap64 (by omega) (by omega);have c6:IntKind.wrap .i64 (R:Int)=R:=wrap64 (by omega) (by omega);simp only [go_sem,seval,c5,c6]
   first | (refine ⟨by decide,?_⟩) | skip
   refine aa.gen [] [] true (by simp) ?_;simp only [go_sem,seval];refine aU.intro (gA [(Q:Int)] (by simp)) ?_;have:right [(Q:Int)]=true:=by simp [right,bL];omega
   simp only [go_sem,seval,this];obtain ⟨q1,q2,q3⟩:=hin (by simp [bL];omega);rw [q1,q2,q3];exact ⟨rfl,rfl,rfl⟩
theorem RM (a b c:Int) (ha:0<=a/\a<=9223372036854775807) (hb:0<=b/\b<=9223372036854775807) (hc:0 < c/\c<=9223372036854775807):Abs.Spec Tryz.prog 163 [] [.int .i64 a,.int .i64 b,.int .i64 c] [] (.bI [.int .i64 (Fv (a*b) c),.int .i64 (Hl (a*b) c)]):=by
 have hP:=Yi a b (by omega) (by omega);have h0:0<=a*b:=Int.mul_nonneg ha.1 hb.1;obtain ⟨P,hPe⟩:∃ P:Nat,a*b=P:=⟨(a*b).toNat,by omega⟩
 have hq:=Xl P c hc (by omega);have ht:=yj a b (by omega) (by omega);rw [hPe] at ht |-;refine Abs.Spec.go (n:=22) (np:=3) (rs:=[.tmp 6,.tmp 7]) mixed Tryz.func163 rfl rfl rfl rfl rfl (by simp) (by simp) ?_;simp only [go_sem,seval];refine aa.pure ht ?_;simp only [go_sem,seval];refine aa.pure hq ?_;simp only [go_sem,seval]
def au.P (x:au) (u:Int):Int:=u*(10000-x.d)*x.c
def au.fit (x:au) (u:Int):Bool:=x.ok&&decide (0<=u)&&decide (u<=1099511627776)
def au.V (x:au) (u:Int):Int:=if x.fit u then Fv (x.P u) 10000 else 0
def au.E (x:au) (u:Int):Int:=if x.fit u then Hl (x.P u) 10000 else 3
theorem Jn (x:au):gU au.a au.ok [x]=x.ok:=by simp [gU,cw,List.range_succ]
theorem au.UX (x:au):x.ok=true ↔ (1<=x.a/\x.a<=6)/\(0<=x.b/\x.b<=2)/\(1<=x.c/\x.c<=1073741824)/\(0<=x.d/\x.d<=10000):=by
 simp [au.ok,within,and_assoc]
theorem OR (x:au) (u:Int):Abs.Spec Tryz.prog 80 [] [.agg x.cells,.int .i64 u] [] (.bI [.int .i64 (x.V u),.int .i64 (x.E u)]):=by
 refine Abs.Spec.go (n:=29) (np:=2) (rs:=[.tmp 4,.tmp 5]) mixed Tryz.func80 rfl rfl rfl rfl rfl (by simp) (by simp) ?_;simp only [go_sem,seval,au.cells]
 first | (refine ⟨by decide,?_⟩) | skip
 refine aa.gen [] [] true (by simp) ?_;simp only [go_sem,seval];refine aU.intro (Pn [x] (by simp)) ?_;cases hok:x.ok
 ·have hf:x.fit u=false:=by simp [au.fit,hok]
  have e1:x.V u=0:=by simp [au.V,hf]
  have e2:x.E u=3:=by simp [au.E,hf]
  simp only [go_sem,seval,Jn,hok,e1,e2,Int.reduceBNe]
 ·simp only [go_sem,seval,Jn,hok,Int.reduceBNe];refine bY.aS (fun h=>?_) (fun h=>?_)
  ·simp only [go_sem,seval,h];refine bH.split (fun h2=>?_) (fun h2=>?_)
   ·have hf:x.fit u=false:=by simp [au.fit] at h2 |-;intros;omega
    have e1:x.V u=0:=by simp [au.V,hf]
    have e2:x.E u=3:=by simp [au.E,hf]
    simp only [go_sem,seval,e1,e2]
   ·have hf:x.fit u=true:=by simp [au.fit,hok] at h h2 |-;omega
    have e1:x.V u=Fv (x.P u) 10000:=by simp [au.V,hf]
    have e2:x.E u=Hl (x.P u) 10000:=by simp [au.E,hf]
    have hk:=x.UX.1 hok;simp only [decide_eq_false_iff_not] at h h2;have w1:IntKind.wrap .i64 (10000-x.d)=10000-x.d:=wrap64 (by omega) (by omega)
    have hb:0<=u*(10000-x.d)/\u*(10000-x.d)<=10995116277760000:=by
     refine ⟨Int.mul_nonneg (by omega) (by omega),?_⟩;exact Int.le_trans (Int.mul_le_mul (show u<=1099511627776 by omega) (show 10000-x.d<=10000 by omega) (by omega) (by omega)) (by decide)
    have w2:IntKind.wrap .i64 (u*(10000-x.d))=u*(10000-x.d):=wrap64 (by omega) (by omega);have hs:=RM (u*(10000-x.d)) x.c 10000 (by omega) (by omega) (by omega);simp only [go_sem,seval,w1,w2];refine aa.pure hs ?_;simp only [go_sem,seval,e1,e2,au.P]
  ·have hf:x.fit u=false:=by simp [au.fit] at h |-;intros;omega
   have e1:x.V u=0:=by simp [au.V,hf]
   have e2:x.E u=3:=by simp [au.E,hf]
   simp only [go_sem,seval,h,e1,e2]
theorem Ki (w a n:Int):∀ ps:List dS,(Ij w a n ps).length<=ps.length+1
 | []=>by simp only [Ij];split<;>simp
 | p :: r=>by
  have:=Ki w a n r;simp only [Ij];split
  ·simp;exact this
  ·split<;>split<;>simp<;>omega
theorem Sv {ps:List dS} {w a u:Int} (h:eg ps w a u=0):Good ps/\fy w a=true /\ -1099511627776<=u/\u<=1099511627776/\0<=bZ w a ps+u/\bZ w a ps+u<=1099511627776:=by
 unfold eg at h;split at h
 ·cases h
 ·rename_i h1;have hg:=gY.1 (by simpa using h1);split at h
  ·cases h
  ·rename_i h2;simp only [Bool.not_eq_false,cr,decide_eq_true_eq] at h2;split at h
   ·cases h
   ·split at h
    ·cases h
    ·refine ⟨hg,h2.1.1,h2.1.2,h2.2,by omega,by omega⟩
theorem bA (a b c:Int):Abs.Spec Tryz.prog 97 [] [.int .i64 a,.int .i64 b,.int .i64 c] [] (.bool (within a b c)):=by
 refine bu 15 3 [.tmp 6] mixed Tryz.func97 ?_;simp only [go_sem,seval]
 repeat' with_reducible first|apply And.intro|exact .dq|refine aa.pure (by assumption) ?_|refine .aT (fun h=>?_) fun h=>?_|refine .aO (fun h=>?_) fun h=>?_|refine .aS (fun h=>?_) fun h=>?_|refine .split (fun h=>?_) fun h=>?_|refine .id ?_|refine ah.next (by omega) ?_ ?_|exact trivial|simp only [*,go_sem,seval]
 all_goals (simp only [within];simp<;>omega)
theorem eV (a b c:Int):Abs.Spec Tryz.prog 87 [] [.int .i64 a,.int .i64 b,.int .i64 c] [] (.bool (within a b c)):=by
 refine bu 15 3 [.tmp 6] mixed Tryz.func87 ?_;simp only [go_sem,seval]
 repeat' with_reducible first|apply And.intro|exact .dq|refine aa.pure (by assumption) ?_|refine .aT (fun h=>?_) fun h=>?_|refine .aO (fun h=>?_) fun h=>?_|refine .aS (fun h=>?_) fun h=>?_|refine .split (fun h=>?_) fun h=>?_|refine .id ?_|refine ah.next (by omega) ?_ ?_|exact trivial|simp only [*,go_sem,seval]
 all_goals (simp only [within];simp<;>omega)
theorem fK (c:Int):Abs.Spec Tryz.prog 107 [] [.int .i64 c] [] (.bool (within c 0 2)):=by
 have h:=bA c 0 2;refine bu 5 1 [.tmp 2] mixed Tryz.func107 ?_;simp only [go_sem,seval]
 repeat' with_reducible first|apply And.intro|exact .dq|refine aa.pure (by assumption) ?_|refine .aT (fun h=>?_) fun h=>?_|refine .aO (fun h=>?_) fun h=>?_|refine .aS (fun h=>?_) fun h=>?_|refine .split (fun h=>?_) fun h=>?_|refine .id ?_|refine ah.next (by omega) ?_ ?_|exact trivial|simp only [*,go_sem,seval]
theorem fO (c:Int):Abs.Spec Tryz.prog 173 [] [.int .i64 c] [] (.bool (within c 1 16)):=by
 have h:=bA c 1 16;refine bu 5 1 [.tmp 2] mixed Tryz.func173 ?_;simp only [go_sem,seval]
 repeat' with_reducible first|apply And.intro|exact .dq|refine aa.pure (by assumption) ?_|refine .aT (fun h=>?_) fun h=>?_|refine .aO (fun h=>?_) fun h=>?_|refine .aS (fun h=>?_) fun h=>?_|refine .split (fun h=>?_) fun h=>?_|refine .id ?_|refine ah.next (by omega) ?_ ?_|exact trivial|simp only [*,go_sem,seval]
theorem sY (c:Int):Abs.Spec Tryz.prog 174 [] [.int .i64 c] [] (.bool (within c 1 6)):=by
 have h:=eV c 1 6;refine bu 5 1 [.tmp 2] mixed Tryz.func174 ?_;simp only [go_sem,seval]
 repeat' with_reducible first|apply And.intro|exact .dq|refine aa.pure (by assumption) ?_|refine .aT (fun h=>?_) fun h=>?_|refine .aO (fun h=>?_) fun h=>?_|refine .aS (fun h=>?_) fun h=>?_|refine .split (fun h=>?_) fun h=>?_|refine .id ?_|refine ah.next (by omega) ?_ ?_|exact trivial|simp only [*,go_sem,seval]
theorem qc (x:au):Abs.Spec Tryz.prog 169 [] [.agg x.cells] [] (.bool x.ok):=by
 have h1:=bA x.a 1 6;have h2:=fK x.b;have h3:=bA x.c 1 1073741824;have h4:=bA x.d 0 10000;refine bu 21 1 [.tmp 2] mixed Tryz.func169 ?_;simp only [go_sem,seval,au.cells]
 repeat' with_reducible first|apply And.intro|exact .dq|refine aa.pure (by assumption) ?_|refine .aT (fun h=>?_) fun h=>?_|refine .aO (fun h=>?_) fun h=>?_|refine .aS (fun h=>?_) fun h=>?_|refine .split (fun h=>?_) fun h=>?_|refine .id ?_|refine ah.next (by omega) ?_ ?_|exact trivial|simp only [*,go_sem,seval]
 all_goals (simp only [au.ok];simp_all)
theorem Mx (a:Nat) (h:a < 9223372036854775808):Abs.Spec Tryz.prog 89 [] [.int .i64 a] [] (.int .u64 a):=by
 have hd:decide ((a:Int) < 0)=false:=by simp
 have hw:IntKind.wrap .u64 (a:Int)=a:=by rw [IntKind.wrap_u64];omega
 refine bu 10 1 [.tmp 2] mixed Tryz.func89 ?_;simp only [go_sem,seval,hd,hw]
theorem Hy (a b:Nat) (ha:a < 9223372036854775808) (hb:b < 9223372036854775808):Abs.Spec Tryz.prog 44 [] [.int .i64 a,.int .i64 b] [] (.agg [.int .i64 ((a*b / 18446744073709551616:Nat):Int),.int .u64 ((a*b%18446744073709551616:Nat):Int)]):=by
 have h1:=Mx a ha;have h2:=Mx b hb;have h3:=yE a b (by omega) (by omega)
 have hP:a*b / 18446744073709551616 < 9223372036854775808:=by
  have:a*b < 9223372036854775808*9223372036854775808:=Nat.mul_lt_mul'' ha hb;omega
 have hw:IntKind.wrap .i64 ((a*b / 18446744073709551616:Nat):Int)=((a*b / 18446744073709551616:Nat):Int):=by rw [IntKind.wrap_i64];omega
 have d1:decide ((a:Int) < 0)=false:=by simp
 have d2:decide ((b:Int) < 0)=false:=by simp
 refine bu 28 2 [.cell 4 117] mixed Tryz.func44 ?_;simp only [go_sem,seval];refine aa.pure h1 ?_;simp only [go_sem,seval];refine aa.pure h2 ?_;simp only [go_sem,seval];refine aa.pure h3 ?_;simp only [go_sem,seval,hw,d1,d2]
theorem LU (P N:Nat) (hN:0 < N/\N < 9223372036854775808) (hP:P < 170141183460469231731687303715884105728):Abs.Spec Tryz.prog 175 [] [.agg [.int .i64 ((P / 18446744073709551616:Nat):Int),.int .u64 ((P%18446744073709551616:Nat):Int)],.int .i64 N] []
  (.bI [.int .i64 (if P / N<=4611686018427387904 then (P / N:Nat) else (0:Int)),.int .i64 (if P / N<=4611686018427387904 then (P%N:Nat) else (0:Int)),.bool (decide (P / N<=4611686018427387904))]):=by
 obtain ⟨H,hH⟩:=aH (P / 18446744073709551616);obtain ⟨L,hL⟩:=aH (P%18446744073709551616);have hHL:H*18446744073709551616+L=P:=by omega
 have hLl:L < 18446744073709551616:=by omega
 have hHl:H < 9223372036854775808:=by omega
 rw [<- hH,<- hL];obtain ⟨Q,hQ⟩:=aH (P / N);obtain ⟨R,hR⟩:=aH (P%N);have hRN:R < N:=by rw [hR];exact Nat.mod_lt _ hN.1
 have hd:=GL H L N (by omega);rw [hHL,<- hQ,<- hR] at hd
 have hbig:N<=H->18446744073709551616<=Q:=fun h=>by
  rw [hQ,Nat.le_div_iff_mul_le hN.1];have:=Nat.mul_le_mul_right 18446744073709551616 h;rw [Nat.mul_comm] at this;omega
 rw [<- hQ,<- hR];have d1:decide ((N:Int) < 1)=false:=by simp;omega
 have d2:decide ((H:Int) < 0)=false:=by simp
 have w1:IntKind.wrap .u64 (H:Int)=H:=by rw [IntKind.wrap_u64];omega
 have w2:IntKind.wrap .u64 (N:Int)=N:=by rw [IntKind.wrap_u64];omega
 refine bu 79 2 [.tmp 4,.tmp 5,.tmp 6] mixed Tryz.func175 ?_;simp only [go_sem,seval,d1,d2,w1,w2];refine ⟨gX.mk (by kernel_rfl),B1.mk (by kernel_rfl),B1.mk (by kernel_rfl),?_⟩;refine bH.aO (fun h=>?_) (fun h=>?_)
 ·have h1:=hbig (by omega);have h2:¬ Q<=4611686018427387904:=by omega
  simp only [go_sem,seval,if_neg h2,decide_eq_false h2]
 ·have h1:H < N:=by omega
  simp only [go_sem,seval,w1,w2];refine aa.pure (hd h1 hLl) ?_;simp only [go_sem,seval];refine bH.aO (fun hq=>?_) (fun hq=>?_)
  ·have h2:¬ Q<=4611686018427387904:=by omega
   simp only [go_sem,seval,if_neg h2,decide_eq_false h2]
  ·have h2:Q<=4611686018427387904:=by omega
   have w3:IntKind.wrap .i64 (Q:Int)=Q:=bn (by omega) (by omega);have w4:IntKind.wrap .i64 (R:Int)=R:=bn (by omega) (by omega);simp only [go_sem,seval,if_pos h2,decide_eq_true h2,w3,w4]
theorem xu (x:au) (u:Int):Abs.Spec Tryz.prog 96 [] [.agg x.cells,.int .i64 u] [] (.bI [.int .i64 (x.V u),.int .i64 (x.E u)]):=by
 have h1:=qc x;have h2:=eV u 0 1099511627776;simp only [au.cells] at h1 |-;refine bu 33 2 [.tmp 4,.tmp 5] mixed Tryz.func96 ?_;simp only [go_sem,seval];refine aa.pure h1 ?_;cases hok:x.ok
 ·have e1:x.V u=0:=by simp [au.V,au.fit,hok]
  have e2:x.E u=3:=by simp [au.E,au.fit,hok]
  simp only [go_sem,seval,e1,e2]
 simp only [go_sem,seval];refine aa.pure h2 ?_;cases hin:within u 0 1099511627776
 ·have hf:x.fit u=false:=by simp [au.fit,hok];simp [within] at hin;omega
  have e1:x.V u=0:=by simp [au.V,hf]
  have e2:x.E u=3:=by simp [au.E,hf]
  simp only [go_sem,seval,e1,e2]
 have hf:x.fit u=true:=by simp [au.fit,hok];simp [within] at hin;omega
 have hr:=(au.UX x).1 hok;obtain ⟨U,rfl⟩:∃ U:Nat,u=U:=⟨u.toNat,by simp [within] at hin;omega⟩
 have hU:U<=1099511627776:=by simp [within] at hin;omega
 obtain ⟨C,hC⟩:∃ C:Nat,x.c=C:=⟨x.c.toNat,by omega⟩
 obtain ⟨M,hM⟩:∃ M:Nat,10000-x.d=M:=⟨(10000-x.d).toNat,by omega⟩
 have hC1:C<=1073741824:=by omega
 have hM1:M<=10000:=by omega
 have hCM:C*M<=1073741824*10000:=Nat.mul_le_mul hC1 hM1;have hP:U*(C*M)<=1099511627776*(1073741824*10000):=Nat.mul_le_mul hU hCM;have w1:IntKind.wrap .i64 (10000-x.d)=M:=by rw [bn (by omega) (by omega)];omega
 have w2:IntKind.wrap .i64 (x.c*(M:Int))=((C*M:Nat):Int):=by
  rw [hC,<- Int.natCast_mul,bn (by omega) (by omega)]
 have hT:=Hy U (C*M) (by omega) (by omega);have hQ:=LU (U*(C*M)) 10000 (by omega) (by omega)
 have ePP:x.P U=((U*(C*M):Nat):Int):=by
  simp only [au.P,hM,hC];rw [Int.natCast_mul,Int.natCast_mul,Int.mul_assoc,Int.mul_comm (M:Int)]
 simp only [go_sem,seval,w1,w2];refine aa.pure hT ?_;simp only [go_sem,seval];refine aa.pure hQ ?_
 by_cases hq:U*(C*M) / 10000<=4611686018427387904
 ·have hR:bL (x.P U / 10000)=true:=by rw [ePP];simp only [bL,cr,decide_eq_true_eq];omega
  have e1:x.V U=((U*(C*M) / 10000:Nat):Int):=by
   simp only [au.V,hf,if_true,Fv,hR];rw [ePP];rfl
  have e2:x.E U=0:=by simp [au.E,hf,Hl,hR]
  simp only [go_sem,seval,if_pos hq,decide_eq_true hq,e1,e2]
 ·have hR:bL (x.P U / 10000)=false:=by rw [ePP];simp only [bL,Bool.and_eq_false_iff,decide_eq_false_iff_not];omega
  have e1:x.V U=0:=by simp [au.V,hf,Fv,hR]
  have e2:x.E U=1:=by simp [au.E,hf,Hl,hR]
  simp only [go_sem,seval,if_neg hq,decide_eq_false hq,e1,e2]
def lT (f:Int->Int->Int) (w:Int):Nat->List dS
 | 0=>[]
 | n+1=>lT f w n++if 0 < f w (n+1) then [⟨w,n+1,f w (n+1)⟩] else []
def enum (f:Int->Int->Int):Nat->List dS
 | 0=>[]
 | n+1=>enum f n++lT f (n+1) 6
theorem vA {f:Int->Int->Int} {w:Int} {p:dS}:∀ {n:Nat},p∈lT f w n ↔ p.who=w/\1<=p.bG/\p.bG<=n/\p.units=f w p.bG/\0 < p.units
 | 0=>by simp [lT];omega
 | n+1=>by
  simp only [lT,List.mem_append,vA (n:=n)];constructor
  ·rintro (⟨h1,h2,h3,h4,h5⟩ | h)
   ·exact ⟨h1,h2,by omega,h4,h5⟩
   ·split at h
    ·rename_i hf;simp only [List.mem_cons,List.not_mem_nil,or_false] at h;subst h;exact ⟨rfl,by show (1:Int)<=n+1;omega,by show (n:Int)+1<=_;omega,rfl,hf⟩
    ·cases h
  ·rintro ⟨h1,h2,h3,h4,h5⟩
   by_cases h:p.bG=n+1
   ·right
    rw [h] at h4;rw [if_pos (by omega)];cases p
    simp_all
   ·left;exact ⟨h1,h2,by omega,h4,h5⟩
theorem Gt {f:Int->Int->Int} {p:dS}:∀ {n:Nat},p∈enum f n ↔ 1<=p.who/\p.who<=n/\1<=p.bG/\p.bG<=6/\p.units=f p.who p.bG/\0 < p.units
 | 0=>by simp [enum];omega
 | n+1=>by
  simp only [enum,List.mem_append,Gt (n:=n),vA];constructor
  ·rintro (⟨h1,h2,h3⟩ | ⟨h1,h2,h3,h4,h5⟩)
   ·exact ⟨h1,by omega,h3⟩
   ·rw [<- h1] at h4;exact ⟨by omega,by omega,h2,h3,h4,h5⟩
  ·rintro ⟨h1,h2,h3,h4,h5,h6⟩
   by_cases h:p.who=n+1
   ·right;rw [h] at h5;exact ⟨h,h3,h4,h5,h6⟩
   ·left;exact ⟨h1,by omega,h3,h4,h5,h6⟩
theorem zQ (f:Int->Int->Int) (w:Int):∀ n:Nat,(lT f w n).Pairwise (fun p q=>p.key < q.key)
 | 0=>by simp [lT]
 | n+1=>by
  simp only [lT,List.pairwise_append];refine ⟨zQ f w n,by split<;>simp,?_⟩;intro p hp q hq;have h:=vA.1 hp;split at hq
  ·simp only [List.mem_cons,List.not_mem_nil,or_false] at hq;subst hq;simp only [dS.key];omega
  ·cases hq
theorem Dk (f:Int->Int->Int):∀ n:Nat,(enum f n).Pairwise (fun p q=>p.key < q.key)
 | 0=>by simp [enum]
 | n+1=>by
  simp only [enum,List.pairwise_append];refine ⟨Dk f n,zQ f _ 6,?_⟩;intro p hp q hq;have h:=Gt.1 hp;have h2:=vA.1 hq;simp only [dS.key];omega
theorem GW:∀ {l m:List dS},l.Pairwise (fun p q=>p.key < q.key)->m.Pairwise (fun p q=>p.key < q.key)->(∀ p,p∈l ↔ p∈m)->l=m
 | [],[],_,_,_=>rfl
 | [],q :: m,_,_,h=>by have:=(h q).2 (by simp);cases this
 | p :: l,[],_,_,h=>by have:=(h p).1 (by simp);cases this
 | p :: l,q :: m,hl,hm,h=>by
  rw [List.pairwise_cons] at hl hm
  have hpq:p=q:=by
   rcases List.mem_cons.1 ((h p).1 (by simp)) with e | e
   ·exact e
   ·rcases List.mem_cons.1 ((h q).2 (by simp)) with e2 | e2
    ·exact e2.symm
    ·have a:=hm.1 p e;have b:=hl.1 q e2;omega
  subst hpq;rw [GW hl.2 hm.2];intro r;constructor
  ·intro hr;rcases List.mem_cons.1 ((h r).1 (by simp [hr])) with e | e
   ·subst e;have:=hl.1 r hr;omega
   ·exact e
  ·intro hr;rcases List.mem_cons.1 ((h r).2 (by simp [hr])) with e | e
   ·subst e;have:=hm.1 r hr;omega
   ·exact e
theorem Sm {ps:List dS} (hg:Good ps) {p:dS} (hp:p∈ps):bZ p.who p.bG ps=p.units:=by
 induction ps with
 | nil=>cases hp
 | cons q r ih =>
  have hgr:Good r:=⟨fun x hx=>hg.1 x (by simp [hx]),(List.pairwise_cons.1 hg.2).2⟩
  simp only [bZ];rcases List.mem_cons.1 hp with e | e
  ·subst e;simp
  ·have hlt:=(List.pairwise_cons.1 hg.2).1 p e
   have hne:¬ (q.who=p.who/\q.bG=p.bG):=fun hh=>by
    simp only [dS.key] at hlt;omega
   rw [if_neg hne,ih hgr e]
theorem Gb {w a:Int}:∀ {ps:List dS},0 < bZ w a ps->(⟨w,a,bZ w a ps⟩:dS)∈ps
 | [],h=>by simp [bZ] at h
 | q :: r,h=>by
  simp only [bZ] at h |-;split
  ·rename_i hh;have:(⟨w,a,q.units⟩:dS)=q:=by cases q;simp_all
   rw [this];simp
  ·rename_i hh;rw [if_neg hh] at h;exact List.mem_cons_of_mem _ (Gb h)
theorem Pq {ps:List dS} (hg:Good ps):enum (fun w a=>bZ w a ps) 16=ps:=by
 refine GW (Dk _ 16) hg.2 ?_;intro p;rw [Gt];constructor
 ·rintro ⟨h1,h2,h3,h4,h5,h6⟩
  have:=Gb (w:=p.who) (a:=p.bG) (ps:=ps) (by rw [<- h5];exact h6);rw [<- h5] at this;exact this
 ·intro hp;have hr:=(hg.1 p hp)
  have hr1:=mD.1 hr.1;exact ⟨hr1.1,hr1.2.1,hr1.2.2.1,hr1.2.2.2,(Sm hg hp).symm,by have:=hr.2;omega⟩
def rK (ps:List dS) (w a n:Int) (w' a':Int):Int:=if w'=w/\a'=a then n else bZ w' a' ps
theorem Rx {ps:List dS} {w a n:Int} (hg:Good ps) (hr:fy w a=true) (h0:0<=n) (hn:n<=1099511627776):enum (rK ps w a n) 16=Ij w a n ps:=by
 have:rK ps w a n=fun w' a'=>bZ w' a' (Ij w a n ps):=by
  funext w' a'
  unfold rK;split
  ·rename_i h;rw [h.1,h.2,Ja hr h0 hg]
  ·rename_i h;rw [C4 h hr hg]
 rw [this,Pq (MN hr hn hg)]
theorem xH (w a:Int) (ps:List dS) (hl:ps.length < 2 ^ 62):Abs.Spec Tryz.prog 230 [] [.int .i64 w,.int .i64 a,.sl 3 (pl ps)] [] (.int .i64 (bZ w a ps)):=by
 refine bu 35 3 [.tmp 6] mixed Tryz.func230 ?_;simp only [go_sem,seval];refine aC.count ps.length [0,1,2] [] (fun i=>[(7,.int .i64 i)]) (fun i=>[]) (fun i=>bZ w a (ps.drop i)=bZ w a ps) (by simp) ?_ ?_
 ·simp only [go_sem,seval]<;>simp
 ·intro i hi hI;simp only [go_sem,seval];refine bH.aO (fun h=>?_) (fun h=>?_)
  ·have hi':i < ps.length:=by omega
   have hw:IntKind.wrap .i64 ((i:Int)+1)=((i+1:Nat):Int):=by rw [bn (by omega) (by omega)];omega
   rw [Ka hi'] at hI;simp only [bZ] at hI;simp only [go_sem,seval,nq ps hi']
   repeat' with_reducible first|apply And.intro|exact .dq|refine aa.pure (by assumption) ?_|refine .aT (fun h=>?_) fun h=>?_|refine .aO (fun h=>?_) fun h=>?_|refine .aS (fun h=>?_) fun h=>?_|refine .split (fun h=>?_) fun h=>?_|refine .id ?_|refine ah.next (by omega) ?_ ?_|exact trivial|simp only [*,go_sem,seval,nq ps hi']
   all_goals (simp_all;done)
  ·obtain rfl:i=ps.length:=by omega
   simp only [List.drop_length,bZ] at hI
   repeat' with_reducible first|apply And.intro|exact .dq|refine aa.pure (by assumption) ?_|refine .aT (fun h=>?_) fun h=>?_|refine .aO (fun h=>?_) fun h=>?_|refine .aS (fun h=>?_) fun h=>?_|refine .split (fun h=>?_) fun h=>?_|refine .id ?_|refine ah.next (by omega) ?_ ?_|exact trivial|simp only [*,go_sem,seval]
theorem sO (w a:Int):fy w a=(within w 1 16&&within a 1 6):=by simp [fy,within,Bool.and_assoc]
def FW (q p:dS):Bool:=decide (q.who > p.who)||(q.who==p.who&&decide (q.bG >= p.bG))
theorem Ww {q p:dS} (hq:fy q.who q.bG=true) (hp:fy p.who p.bG=true):FW q p = !decide (Ke q p.who p.bG < 0):=by
 rw [FR hq hp,Bool.eq_iff_iff];simp only [FW,Bool.or_eq_true,cr,decide_eq_true_eq,beq_iff_eq,Bool.not_eq_true',decide_eq_false_iff_not];split<;>omega
theorem nE (ps:List dS) (hl:ps.length < 2 ^ 62):Abs.Spec Tryz.prog 94 [] [.sl 3 (pl ps)] [] (.bool (gj ps)):=by
 refine bu 66 1 [.tmp 2] mixed Tryz.func94 ?_;simp only [go_sem,seval];refine aC.count ps.length [0] [] (fun i=>[(3,.int .i64 i)]) (fun i=>[]) (fun i=>∀ j < i,oz ps j=true) (by simp) ?_ ?_
 ·simp only [go_sem,seval]<;>simp
 ·intro i hi hI;simp only [go_sem,seval];refine bH.aO (fun h=>?_) (fun h=>?_)
  ·have hi':i < ps.length:=by omega
   have hw:IntKind.wrap .i64 ((i:Int)+1)=((i+1:Nat):Int):=by rw [bn (by omega) (by omega)];omega
   have h1:=fO ps[i].who;have h2:=sY ps[i].bG;have h3:=eV ps[i].units 1 1099511627776;have hk:=JS hi';have hwu:within ps[i].units 1 1099511627776=(decide (1<=ps[i].units)&&decide (ps[i].units<=1099511627776)):=rfl;rw [sO,Bool.and_assoc _ (decide (1<=ps[i].units)),<- hwu] at hk;clear hwu
   have e0:oz ps i=true->∀ k < i+1,oz ps k=true:=fun h0 k hk=>by
    rcases Nat.lt_or_ge k i with h | h
    ·exact hI k h
    ·obtain rfl:k=i:=by omega
     exact h0
   have e1:oz ps i=false->gj ps=false:=IQ hi';rcases Nat.eq_zero_or_pos i with rfl | hpos
   ·simp only [go_sem,seval,nq ps hi']
    repeat' with_reducible first|apply And.intro|exact .dq|refine aa.pure (by assumption) ?_|refine aa.pure (h1) ?_|refine aa.pure (h2) ?_|refine aa.pure (h3) ?_|refine .aT (fun h=>?_) fun h=>?_|refine .aO (fun h=>?_) fun h=>?_|refine .aS (fun h=>?_) fun h=>?_|refine .split (fun h=>?_) fun h=>?_|refine .id ?_|refine ah.next (by omega) ?_ ?_|exact trivial|simp only [*,go_sem,seval]
    all_goals first
     | omega
     | rfl
     | (refine e0 ?_;rw [hk];simp_all;done)
     | (refine e0 ?_;rw [hk];simp_all [FW];omega)
     | (rw [e1 ?_]
        cases hh:oz ps 0
        ·rfl
        ·exfalso;rw [hk] at hh;simp_all [FW])
     | (rw [e1 ?_]
        cases hh:oz ps 0
        ·rfl
        ·exfalso;rw [hk] at hh;simp_all [FW];omega)
   ·obtain ⟨j,rfl⟩:∃ j,i=j+1:=⟨i-1,by omega⟩
    have hj:j < ps.length:=by omega
    have hw1:IntKind.wrap .i64 (((j+1:Nat):Int)-1)=(j:Int):=by rw [bn (by omega) (by omega)];omega
    have ej:ps.getD (j+1-1) ⟨0,0,0⟩=ps[j]:=by simp [hj]
    rw [ej] at hk;have hjo:=hI j (by omega)
    have hjr:fy ps[j].who ps[j].bG=true:=by
     rw [JS hj] at hjo;simp only [cr] at hjo;exact hjo.1.1.1
    replace hk:oz ps (j+1)=(within ps[j+1].who 1 16&&within ps[j+1].bG 1 6&&within ps[j+1].units 1 1099511627776&&!FW ps[j] ps[j+1]):=by
     rw [hk];cases hwa:within ps[j+1].who 1 16&&within ps[j+1].bG 1 6
     ·simp
     ·rw [<- sO] at hwa;rw [Ww hjr hwa];simp
    simp only [go_sem,seval,nq ps hi']
    repeat' with_reducible first|apply And.intro|exact .dq|refine aa.pure (by assumption) ?_|refine aa.pure (h1) ?_|refine aa.pure (h2) ?_|refine aa.pure (h3) ?_|refine .aT (fun h=>?_) fun h=>?_|refine .aO (fun h=>?_) fun h=>?_|refine .aS (fun h=>?_) fun h=>?_|refine .split (fun h=>?_) fun h=>?_|refine .id ?_|refine ah.next (by omega) ?_ ?_|exact trivial|simp only [*,go_sem,seval,nq ps hj]
    all_goals first
     | omega
     | rfl
     | (refine e0 ?_
        have ho:FW ps[j] ps[j+1]=false:=by
         simp only [beq_iff_eq,beq_eq_false_iff_ne] at *;simp only [FW,Bool.or_eq_false_iff,Bool.and_eq_false_iff,decide_eq_false_iff_not,beq_eq_false_iff_ne];omega
        rw [hk,ho]
        simp only [*,Bool.and_self,Bool.not_false])
     | (refine e0 ?_;rw [hk];simp_all;done)
     | (refine e0 ?_;rw [hk];simp_all [FW];omega)
     | (rw [e1 ?_]
        cases hh:oz ps (j+1)
        ·rfl
        ·exfalso;rw [hk] at hh;simp_all [FW])
     | (rw [e1 ?_]
        cases hh:oz ps (j+1)
        ·rfl
        ·exfalso;rw [hk] at hh;simp_all [FW];omega)
  ·obtain rfl:i=ps.length:=by omega
   have hc:=Gy hI
   repeat' with_reducible first|apply And.intro|exact .dq|refine aa.pure (by assumption) ?_|refine .aT (fun h=>?_) fun h=>?_|refine .aO (fun h=>?_) fun h=>?_|refine .aS (fun h=>?_) fun h=>?_|refine .split (fun h=>?_) fun h=>?_|refine .id ?_|refine ah.next (by omega) ?_ ?_|exact trivial|simp only [*,go_sem,seval]
theorem Cn (f:Int->Int->Int) (w:Int):∀ n:Nat,(lT f w n).length<=n
 | 0=>by simp [lT]
 | n+1=>by have:=Cn f w n;simp only [lT,List.length_append];split<;>simp<;>omega
theorem ND (f:Int->Int->Int):∀ n:Nat,(enum f n).length<=6*n
 | 0=>by simp [enum]
 | n+1=>by have:=ND f n;have:=Cn f (n+1) 6;simp only [enum,List.length_append];omega
theorem G9 (ps:List dS) (w a u:Int) (hl:ps.length < 2 ^ 29) :
  Abs.Spec Tryz.prog 184 [] [.sl 3 (pl ps),.int .i64 w,.int .i64 a,.int .i64 u] [.own 3 (pl (dh ps w a u))] (.bI [.ref 0,.int .i64 (eg ps w a u)]):=by
 have hc:=nE ps (by omega);have hr1:=fO w;have hr2:=sY a;have hr3:=eV u (-1099511627776) 1099511627776;have hu:=xH w a ps (by omega);have hrw:=sO w a;refine bu 72 4 [.tmp 8,.tmp 9] mixed Tryz.func184 ?_;simp only [go_sem,seval];refine aa.pure hc ?_;cases hk:gj ps
 ·have e1:eg ps w a u=14:=by simp [eg,hk]
  have e2:dh ps w a u=[]:=by simp [dh,e1]
  simp only [hk,go_sem,seval,e1,e2];rfl
 have hg:=gY.1 hk;have hur:=Aa (w:=w) (a:=a) hg.1;simp only [hk,go_sem,seval];refine aa.pure hr1 ?_;cases hb1:within w 1 16
 ·have e1:eg ps w a u=3:=by simp [eg,hk,hrw,hb1]
  have e2:dh ps w a u=[]:=by simp [dh,e1]
  simp only [go_sem,seval,e1,e2];rfl
 simp only [go_sem,seval];refine aa.pure hr2 ?_;cases hb2:within a 1 6
 ·have e1:eg ps w a u=3:=by simp [eg,hk,hrw,hb2]
  have e2:dh ps w a u=[]:=by simp [dh,e1]
  simp only [go_sem,seval,e1,e2];rfl
 have hrb:fy w a=true:=by rw [hrw,hb1,hb2];rfl
 simp only [go_sem,seval];refine aa.pure hr3 ?_;cases hb3:within u (-1099511627776) 1099511627776
 ·have e1:eg ps w a u=3:=by
   have:(decide (-1099511627776<=u)&&decide (u<=1099511627776))=false:=hb3;simp only [eg,hk,hrb,Bool.true_and,this];rfl
  have e2:dh ps w a u=[]:=by simp [dh,e1]
  simp only [go_sem,seval,e1,e2];rfl
 have hub:-1099511627776<=u/\u<=1099511627776:=by simpa [within] using hb3
 simp only [go_sem,seval];refine aa.pure hu ?_;obtain ⟨n,hn⟩:=aH (bZ w a ps+u);have hw:IntKind.wrap .i64 (bZ w a ps+u)=n:=by rw [bn (by omega) (by omega),hn]
 rcases Int.lt_or_le n 0 with h3 | h3
 ·have e1:eg ps w a u=13:=by simp [eg,hk,hrb];omega
  have e2:dh ps w a u=[]:=by simp [dh,e1]
  have d3:decide (n < 0)=true:=by simpa using h3
  simp only [go_sem,seval,hw,e1,e2,d3];rfl
 have d3:decide (n < 0)=false:=by simpa using h3
 rcases Int.lt_or_le 1099511627776 n with h4 | h4
 ·have e1:eg ps w a u=1:=by simp [eg,hk,hrb];omega
  have e2:dh ps w a u=[]:=by simp [dh,e1]
  have d4:decide (1099511627776 < n)=true:=by simpa using h4
  simp only [go_sem,seval,hw,e1,e2,d3,d4];rfl
 have d4:decide (1099511627776 < n)=false:=by simpa using h4
 have e1:eg ps w a u=0:=by simp [eg,hk,hrb];omega
 have e2:dh ps w a u=Ij w a n ps:=by simp [dh,e1,hn]
 simp only [go_sem,seval,hw,d3,d4,e1,e2];rw [<- Rx hg hrb h3 h4];clear hn hw e1 e2 hu;refine aC.count 16 [0,1,2,10] [560] (fun j=>[(12,.int .i64 ((j:Int)+1)),(11,.ref 1136)]) (fun j=>[(1136,.own 3 (pl (enum (rK ps w a n) j)))]) (fun _=>True) trivial ?_ ?_
 ·simp only [go_sem,seval]<;>simp [enum,pl]
 ·intro j hj _;simp only [go_sem,seval];refine bH.aO (fun h=>?_) (fun h=>?_)
  ·have hj':j < 16:=by omega
   have hwj:IntKind.wrap .i64 ((j:Int)+1+1)=((j+1:Nat):Int)+1:=by rw [bn (by omega) (by omega)];omega
   simp only [go_sem,seval];refine aC.count 6 [0,1,2,10,12] [560] (fun i=>[(13,.int .i64 ((i:Int)+1)),(11,.ref 1136)]) (fun i=>[(1136,.own 3 (pl (enum (rK ps w a n) j++lT (rK ps w a n) (j+1) i)))]) (fun _=>True) trivial ?_ ?_
   ·simp only [go_sem,seval]<;>simp [lT]
   ·intro i hi _;have hwi:IntKind.wrap .i64 ((i:Int)+1+1)=((i+1:Nat):Int)+1:=by rw [bn (by omega) (by omega)];omega
    have hu:=xH (j+1) (i+1) ps (by omega);simp only [go_sem,seval];refine bH.aO (fun h=>?_) (fun h=>?_)
    ·have hi':i < 6:=by omega
     have hstep:pl (enum (rK ps w a n) j++lT (rK ps w a n) (j+1) (i+1))=pl (enum (rK ps w a n) j++lT (rK ps w a n) (j+1) i)++if 0 < rK ps w a n (j+1) (i+1) then [[.int .i64 (j+1),.int .i64 (i+1),.int .i64 (rK ps w a n (j+1) (i+1))]] else []:=by
      simp only [lT];split<;>simp [pl,dS.cells]
     have hlen:(enum (rK ps w a n) j++lT (rK ps w a n) (j+1) i).length<=102:=by
      have:=ND (rK ps w a n) j;have:=Cn (rK ps w a n) (j+1) i;simp only [List.length_append];omega
     simp only [go_sem,seval];refine aa.pure hu ?_
     repeat' with_reducible first|apply And.intro|exact .dq|refine aa.pure (by assumption) ?_|refine .aT (fun h=>?_) fun h=>?_|refine .aO (fun h=>?_) fun h=>?_|refine .aS (fun h=>?_) fun h=>?_|refine .split (fun h=>?_) fun h=>?_|refine .id ?_|refine ah.next (by omega) ?_ ?_|exact trivial|simp only [*,go_sem,seval]
     all_goals first
      | omega
      | (clear hstep hlen
         simp only [beq_iff_eq,beq_eq_false_iff_ne] at *;simp only [rK]
         (repeat' split)<;>first
          | rfl
          | omega
          | (simp;done)
          | (exfalso;omega))
    ·obtain rfl:i=6:=by omega
     have e3:enum (rK ps w a n) (j+1)=enum (rK ps w a n) j++lT (rK ps w a n) (j+1) 6:=rfl
     repeat' with_reducible first|apply And.intro|exact .dq|refine aa.pure (by assumption) ?_|refine .aT (fun h=>?_) fun h=>?_|refine .aO (fun h=>?_) fun h=>?_|refine .aS (fun h=>?_) fun h=>?_|refine .split (fun h=>?_) fun h=>?_|refine .id ?_|refine ah.next (by omega) ?_ ?_|exact trivial|simp only [*,go_sem,seval]
  ·obtain rfl:j=16:=by omega
   simp only [go_sem,seval]
end Go.Proofs.YtnkobepdbkmedaaGreatDoor
