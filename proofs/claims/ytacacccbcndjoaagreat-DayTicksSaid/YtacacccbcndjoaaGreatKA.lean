/- Pledges, as a list in order: what a change makes of it, and what follows. No theorem of a claim. -/
import Derived.Test.YtacacccbcndjoaaGreatTypes
import Derived.Test.YtacacccbcndjoaaGreatAbcLoop
import Derived.Test.YtacacccbcndjoaaGreatAbcHard3
import Derived.Test.YtacacccbcndjoaaGreatAbcAuto
import Derived.Shelf.Bits.Mul64
import Derived.Test.YtacacccbcndjoaaGreatAbcOpen
set_option linter.unusedSimpArgs false
set_option linter.unusedVariables false
set_option maxHeartbeats 4000000
set_option maxRecDepth 16000
namespace Go.Proofs.YtacacccbcndjoaaGreat
open Go.Abs
structure eW where
 who:Int
 bF:Int
 units:Int
 deriving DecidableEq
theorem bz {x:Int} (h1:-9223372036854775808<=x) (h2:x < 9223372036854775808):IntKind.i64.wrap x=x:=xR h1 h2
def eW.key (p:eW):Int:=p.who*8+p.bF
def fc (w a:Int):Bool:=decide (1<=w)&&decide (w<=16)&&decide (1<=a)&&decide (a<=6)
def eW.ok (p:eW):Prop:=fc p.who p.bF=true/\1<=p.units/\p.units<=1099511627776
theorem lR {w a:Int}:fc w a=true ↔ 1<=w/\w<=16/\1<=a/\a<=6:=by
 simp only [fc,cg,decide_eq_true_eq];omega
def HN (p:eW) (w a:Int):Int:=if p.who≠w then IntKind.wrap .i64 (p.who-w) else IntKind.wrap .i64 (p.bF-a)
theorem Bf {p:eW} {w a:Int} (hp:fc p.who p.bF=true) (h:fc w a=true):HN p w a=if p.who≠w then p.who-w else p.bF-a:=by
 rw [lR] at hp h;unfold HN;rw [bz (by omega) (by omega),bz (by omega) (by omega)]
theorem Gp {p:eW} {w a:Int} (hp:fc p.who p.bF=true) (h:fc w a=true):HN p w a < 0 ↔ p.key < w*8+a:=by
 rw [Bf hp h];rw [lR] at hp h;unfold eW.key;split<;>omega
theorem key_inj {p:eW} {w a:Int} (hp:fc p.who p.bF=true) (h:fc w a=true):p.key=w*8+a ↔ p.who=w/\p.bF=a:=by
 rw [lR] at hp h;unfold eW.key;omega
def nU (ps:List eW) (i:Nat):Bool:=
 match ps[i]? with
 | none=>true
 | some p=>fc p.who p.bF&&decide (1<=p.units)&&decide (p.units<=1099511627776)&&(match i with
  | 0=>true
  | j+1=>match ps[j]? with
   | some q=>decide (HN q p.who p.bF < 0)
   | none=>true)
def gj (ps:List eW):Bool:=(List.range ps.length).all (nU ps)
def Good (ps:List eW):Prop:=(∀ p∈ps,p.ok)/\ps.Pairwise (fun p q=>p.key < q.key)
theorem gM {ps:List eW}:gj ps=true ↔ Good ps:=by
 have hok:∀ i (h:i < ps.length),nU ps i=true ↔ ps[i].ok/\∀ j,(hj:j+1=i)->HN (ps[j]'(by omega)) ps[i].who ps[i].bF < 0:=by
  intro i h;unfold nU;rw [List.getElem?_eq_getElem h];cases i with
  | zero=>simp [eW.ok,and_assoc]
  | succ i =>
   simp only [List.getElem?_eq_getElem (show i < ps.length by omega),cg,decide_eq_true_eq,eW.ok];constructor
   ·rintro ⟨⟨⟨h1,h2⟩,h3⟩,h4⟩
    exact ⟨⟨h1,h2,h3⟩,fun j hj=>(show j=i by omega) ▸ h4⟩
   ·rintro ⟨⟨h1,h2,h3⟩,h4⟩
    exact ⟨⟨⟨h1,h2⟩,h3⟩,h4 i rfl⟩
 constructor
 ·intro hc
  have hall:∀ i (h:i < ps.length),nU ps i=true:=by
   intro i h;exact List.all_eq_true.1 hc i (List.mem_range.2 h)
  have hp:∀ i (h:i < ps.length),ps[i].ok:=fun i h=>((hok i h).1 (hall i h)).1
  refine ⟨?_,?_⟩
  ·intro p hm;obtain ⟨i,hi,rfl⟩:=List.mem_iff_getElem.1 hm;exact hp i hi
  ·rw [List.pairwise_iff_getElem]
   have key:∀ d i (hj:i+d+1 < ps.length),ps[i].key < ps[i+d+1].key:=by
    intro d
    induction d with
    | zero =>
     intro i hj;have h1:=((hok (i+1) hj).1 (hall _ hj)).2 i rfl;rw [Gp (hp i (by omega)).1 (hp (i+1) hj).1] at h1;exact h1
    | succ d ih =>
     intro i hj;have h0:=ih i (by omega);have h1:=((hok (i+d+1+1) hj).1 (hall _ hj)).2 (i+d+1) rfl;rw [Gp (hp (i+d+1) (by omega)).1 (hp (i+d+1+1) hj).1] at h1;exact Int.lt_trans h0 h1
   intro i j hi hj hij;have:=key (j-i-1) i (by omega);have e:i+(j-i-1)+1=j:=by omega
   simpa only [e] using this
 ·rintro ⟨h1,h2⟩
  rw [List.pairwise_iff_getElem] at h2;refine List.all_eq_true.2 fun i hi=>?_
  have hi:=List.mem_range.1 hi;rw [hok i hi];refine ⟨h1 _ (List.getElem_mem hi),?_⟩;intro j hj;have hjl:j < ps.length:=by omega
  rw [Gp (h1 _ (List.getElem_mem hjl)).1 (h1 _ (List.getElem_mem hi)).1];exact h2 j i hjl hi (by omega)
def pos (K:Int):List eW->Nat
 | []=>0
 | p :: r=>if p.key < K then pos K r+1 else 0
def FR (w a n:Int):List eW->List eW
 | []=>if n > 0 then [⟨w,a,n⟩] else []
 | p :: r=>if p.key < w*8+a then p :: FR w a n r else if p.key=w*8+a then (if n > 0 then ⟨w,a,n⟩ :: r else r) else (if n > 0 then ⟨w,a,n⟩ :: p :: r else p :: r)
def bU (w a:Int):List eW->Int
 | []=>0
 | p :: r=>if p.who=w/\p.bF=a then p.units else bU w a r
theorem Ak {w a n:Int}:∀ {ps:List eW} {q:eW},q∈FR w a n ps->q∈ps\/(q=⟨w,a,n⟩/\n > 0)
 | [],q,h=>by
  simp only [FR] at h;split at h
  ·simp at h;exact .inr ⟨h,by assumption⟩
  ·simp at h
 | p :: r,q,h=>by
  simp only [FR] at h;split at h
  ·rcases List.mem_cons.1 h with h | h
   ·exact .inl (by simp [h])
   ·rcases Ak h with h | h
    ·exact .inl (by simp [h])
    ·exact .inr h
  ·split at h
   ·split at h
    ·rcases List.mem_cons.1 h with h | h
     ·exact .inr ⟨h,by assumption⟩
     ·exact .inl (by simp [h])
    ·exact .inl (by simp [h])
   ·split at h
    ·rcases List.mem_cons.1 h with h | h
     ·exact .inr ⟨h,by assumption⟩
     ·exact .inl h
    ·exact .inl h
theorem IM {w a n:Int} (hr:fc w a=true) (hn:n<=1099511627776) {ps:List eW} (hg:Good ps):Good (FR w a n ps):=by
 refine ⟨?_,?_⟩
 ·intro q hq;rcases Ak hq with h | ⟨rfl,h⟩
  ·exact hg.1 q h
  ·exact ⟨hr,by show 1<=n;omega,hn⟩
 ·have hp:=hg.2;clear hg
  induction ps with
  | nil=>simp only [FR];split<;>simp
  | cons p r ih =>
   rw [List.pairwise_cons] at hp;simp only [FR];split
   ·rename_i h;rw [List.pairwise_cons];refine ⟨?_,ih hp.2⟩;intro q hq;rcases Ak hq with h2 | ⟨rfl,_⟩
    ·exact hp.1 q h2
    ·exact h
   ·split
    ·split
     ·rename_i h1 h2 _;rw [List.pairwise_cons];refine ⟨?_,hp.2⟩;intro q hq;have:=hp.1 q hq
      show w*8+a < q.key
      omega
     ·exact hp.2
    ·split
     ·rename_i h1 h2 _;rw [List.pairwise_cons,List.pairwise_cons];refine ⟨?_,hp⟩;intro q hq
      show w*8+a < q.key
      rcases List.mem_cons.1 hq with rfl | hq
      ·omega
      ·have:=hp.1 q hq;omega
     ·rw [List.pairwise_cons];exact hp
theorem vH {w a:Int}:∀ {ps:List eW},(∀ p∈ps,¬ (p.who=w/\p.bF=a))->bU w a ps=0
 | [],_=>rfl
 | p :: r,h=>by simp only [bU,if_neg (h p (by simp))];exact vH fun q hq=>h q (by simp [hq])
theorem FH {w a n:Int} (hr:fc w a=true) (hn:0<=n):∀ {ps:List eW},Good ps->bU w a (FR w a n ps)=n
 | [],_=>by
  simp only [FR];split
  ·simp [bU]
  ·simp [bU];omega
 | p :: r,hg=>by
  have hp:=(hg.1 p (by simp)).1;have hgr:Good r:=⟨fun q hq=>hg.1 q (by simp [hq]),(List.pairwise_cons.1 hg.2).2⟩
  have hlt:=(List.pairwise_cons.1 hg.2).1;have hkey:=key_inj hp hr
  have hrest:w*8+a<=p.key->∀ q∈r,¬ (q.who=w/\q.bF=a):=by
   intro hle q hq hh;have h1:=(key_inj (hg.1 q (by simp [hq])).1 hr).2 hh;have h2:=hlt q hq;omega
  simp only [FR];split
  ·rename_i h;have:¬ (p.who=w/\p.bF=a):=fun hh=>by have:=hkey.2 hh;omega
   simp only [bU,if_neg this];exact FH hr hn hgr
  ·split
   ·split
    ·simp [bU]
    ·rw [vH (hrest (by omega))];omega
   ·rename_i h1 h2;have:¬ (p.who=w/\p.bF=a):=fun hh=>h2 (hkey.2 hh)
    split
    ·simp [bU]
    ·simp only [bU,if_neg this];rw [vH (hrest (by omega))];omega
theorem zy {w a n w' a':Int} (hne:¬ (w'=w/\a'=a)) (hr:fc w a=true):∀ {ps:List eW},Good ps->bU w' a' (FR w a n ps)=bU w' a' ps
 | [],_=>by
  have:¬ (w=w'/\a=a'):=fun h=>hne ⟨h.1.symm,h.2.symm⟩
  simp only [FR];split
  ·simp [bU,this]
  ·rfl
 | p :: r,hg=>by
  have hp:=(hg.1 p (by simp)).1;have hgr:Good r:=⟨fun q hq=>hg.1 q (by simp [hq]),(List.pairwise_cons.1 hg.2).2⟩
  have hh:¬ (w=w'/\a=a'):=fun h=>hne ⟨h.1.symm,h.2.symm⟩
  have hkey:=key_inj hp hr;simp only [FR];split
  ·simp only [bU,zy hne hr hgr]
  ·split
   ·rename_i h1 h2;have e:=hkey.1 h2;have:¬ (p.who=w'/\p.bF=a'):=fun h=>hne ⟨by rw [<- h.1,e.1],by rw [<- h.2,e.2]⟩
    split
    ·simp [bU,hh,this]
    ·simp [bU,this]
   ·split
    ·simp [bU,hh]
    ·rfl
def eW.cells (p:eW):List D:=[.int .i64 p.who,.int .i64 p.bF,.int .i64 p.units]
def pl (ps:List eW):List (List D):=ps.map eW.cells
@[go_sem] theorem nF (ps:List eW):(pl ps).length=ps.length:=by simp [pl]
theorem jX (ps:List eW) {i:Nat} (h:i < ps.length):(pl ps).getD i []=[.int .i64 ps[i].who,.int .i64 ps[i].bF,.int .i64 ps[i].units]:=by simp [pl,h,eW.cells]
theorem Iz (w a:Int):Abs.Spec Tryz.prog 116 [] [.int .i64 w,.int .i64 a] [] (.bool (fc w a)):=by
 refine aU 19 2 [.tmp 4] mixed Tryz.func116 ?_;simp only [go_sem,seval]
 repeat' with_reducible first|apply And.intro|exact .dq|refine aa.pure (by assumption) ?_|refine .aH (fun h=>?_) fun h=>?_|refine .aF (fun h=>?_) fun h=>?_|refine .aK (fun h=>?_) fun h=>?_|refine .split (fun h=>?_) fun h=>?_|refine .id ?_|refine ah.next (by omega) ?_ ?_|exact trivial|simp only [*,go_sem,seval]
 all_goals (simp only [fc];simp<;>omega)
theorem Gx (p:eW) (w a:Int):Abs.Spec Tryz.prog 117 [] [.agg [.int .i64 p.who,.int .i64 p.bF,.int .i64 p.units],.int .i64 w,.int .i64 a] [] (.int .i64 (HN p w a)):=by
 refine aU 19 3 [.tmp 6] mixed Tryz.func117 ?_;simp only [go_sem,seval]
 repeat' with_reducible first|apply And.intro|exact .dq|refine aa.pure (by assumption) ?_|refine .aH (fun h=>?_) fun h=>?_|refine .aF (fun h=>?_) fun h=>?_|refine .aK (fun h=>?_) fun h=>?_|refine .split (fun h=>?_) fun h=>?_|refine .id ?_|refine ah.next (by omega) ?_ ?_|exact trivial|simp only [*,go_sem,seval]
 all_goals (simp only [HN];simp_all)
theorem Hx {ps:List eW} {i:Nat} (h:i < ps.length):nU ps i=(fc ps[i].who ps[i].bF&&decide (1<=ps[i].units)&&decide (ps[i].units<=1099511627776)&&(decide (i=0)||decide (HN (ps.getD (i-1) ⟨0,0,0⟩) ps[i].who ps[i].bF < 0))):=by
 unfold nU;rw [List.getElem?_eq_getElem h];cases i with
 | zero=>simp
 | succ i =>
  have h':i < ps.length:=by omega
  simp [List.getElem?_eq_getElem h',List.getD_eq_getElem?_getD]
theorem Fo {ps:List eW} {i:Nat} (h:i < ps.length) (hn:nU ps i=false):gj ps=false:=by
 cases hc:gj ps
 ·rfl
 ·rw [List.all_eq_true.1 hc i (List.mem_range.2 h)] at hn;cases hn
theorem AZ {ps:List eW} (h:∀ i < ps.length,nU ps i=true):gj ps=true:=List.all_eq_true.2 fun i hi=>h i (List.mem_range.1 hi)
theorem Pm (ps:List eW) (hl:ps.length < 2 ^ 62):Abs.Spec Tryz.prog 34 [] [.sl 3 (pl ps)] [] (.int .i64 (if gj ps then 0 else 14)):=by
 refine aU 46 1 [.tmp 2] mixed Tryz.func34 ?_;simp only [go_sem,seval];refine aB.count ps.length [0,5,6] [112] (fun i=>[(7,.int .i64 i)]) (fun i=>[]) (fun i=>∀ j < i,nU ps j=true) (by simp) ?_ ?_
 ·simp only [go_sem,seval]<;>simp
 ·intro i hi hI;simp only [go_sem,seval];refine bH.aF (fun h=>?_) (fun h=>?_)
  ·have hi':i < ps.length:=by omega
   have hw:IntKind.wrap .i64 ((i:Int)+1)=((i+1:Nat):Int):=by rw [bz (by omega) (by omega)];omega
   have hr:=Iz ps[i].who ps[i].bF;have hk:=Hx hi'
   have e0:nU ps i=true->∀ k < i+1,nU ps k=true:=fun h0 k hk=>by
    rcases Nat.lt_or_ge k i with h | h
    ·exact hI k h
    ·obtain rfl:k=i:=by omega
     exact h0
   have e1:nU ps i=false->gj ps=false:=Fo hi';rcases Nat.eq_zero_or_pos i with rfl | hpos
   ·simp only [go_sem,seval,jX ps hi']
    repeat' with_reducible first|apply And.intro|exact .dq|refine aa.pure (by assumption) ?_|refine aa.pure (hr) ?_|refine .aH (fun h=>?_) fun h=>?_|refine .aF (fun h=>?_) fun h=>?_|refine .aK (fun h=>?_) fun h=>?_|refine .split (fun h=>?_) fun h=>?_|refine .id ?_|refine ah.next (by omega) ?_ ?_|exact trivial|simp only [*,go_sem,seval]
    all_goals first
     | omega
     | (refine e0 ?_;rw [hk];simp_all<;>omega)
     | rfl
     | (rw [e1 ?_]
        ·rfl
        ·cases hh:nU ps 0
         ·rfl
         ·exfalso;rw [hk] at hh;simp at hh;first | omega | (simp_all;done) | (simp_all;omega))
   ·obtain ⟨j,rfl⟩:∃ j,i=j+1:=⟨i-1,by omega⟩
    have hj:j < ps.length:=by omega
    have hw1:IntKind.wrap .i64 (((j+1:Nat):Int)-1)=(j:Int):=by rw [bz (by omega) (by omega)];omega
    have hcmp:=Gx ps[j] ps[j+1].who ps[j+1].bF;have ej:ps.getD (j+1-1) ⟨0,0,0⟩=ps[j]:=by simp [hj]
    rw [ej] at hk;simp only [go_sem,seval,jX ps hi']
    repeat' with_reducible first|apply And.intro|exact .dq|refine aa.pure (by assumption) ?_|refine aa.pure (hr) ?_|refine aa.pure (hcmp) ?_|refine .aH (fun h=>?_) fun h=>?_|refine .aF (fun h=>?_) fun h=>?_|refine .aK (fun h=>?_) fun h=>?_|refine .split (fun h=>?_) fun h=>?_|refine .id ?_|refine ah.next (by omega) ?_ ?_|exact trivial|simp only [*,go_sem,seval,jX ps hj]
    all_goals first
     | omega
     | (refine e0 ?_;rw [hk];simp_all<;>omega)
     | rfl
     | (rw [e1 ?_]
        ·rfl
        ·cases hh:nU ps (j+1)
         ·rfl
         ·exfalso;rw [hk] at hh;simp at hh;first | omega | (simp_all;done) | (simp_all;omega))
  ·obtain rfl:i=ps.length:=by omega
   have hc:=AZ hI
   repeat' with_reducible first|apply And.intro|exact .dq|refine aa.pure (by assumption) ?_|refine .aH (fun h=>?_) fun h=>?_|refine .aF (fun h=>?_) fun h=>?_|refine .aK (fun h=>?_) fun h=>?_|refine .split (fun h=>?_) fun h=>?_|refine .id ?_|refine ah.next (by omega) ?_ ?_|exact trivial|simp only [*,go_sem,seval]
theorem MI {ps:List eW} {i:Nat} (h:i < ps.length):ps.drop i=ps[i] :: ps.drop (i+1):=(List.drop_eq_getElem_cons h)
theorem DF {a b:Int} (h:(a==b)=true):a=b:=by simpa using h
theorem SE {ps qs:List eW} (hl:ps.length=qs.length) (h:∀ j (h1:j < ps.length) (h2:j < qs.length),ps[j]=qs[j]):ps=qs:=List.ext_getElem hl h
theorem OR (ps qs:List eW) (hl:ps.length < 2 ^ 62):Abs.Spec Tryz.prog 21 [] [.sl 3 (pl ps),.sl 3 (pl qs)] [] (.bool (decide (ps=qs))):=by
 refine aU 54 2 [.tmp 4] mixed Tryz.func21 ?_;simp only [go_sem,seval];refine bH.aK (fun h=>?_) (fun h=>?_)
 ·simp only [go_sem,seval];have:ps≠qs:=by rintro rfl;simp at h
  simp [this]
 ·have hlen:ps.length=qs.length:=by have:=DF h;omega
  simp only [go_sem,seval];refine aB.count ps.length [0,1] [] (fun i=>[(5,.int .i64 i)]) (fun i=>[]) (fun i=>∀ j (h1:j < ps.length) (h2:j < qs.length),j < i->ps[j]=qs[j]) (by simp) ?_ ?_
  ·simp only [go_sem,seval]<;>simp
  ·intro i hi hI;simp only [go_sem,seval];refine bH.aF (fun h=>?_) (fun h=>?_)
   ·have hi':i < ps.length:=by omega
    have hi2:i < qs.length:=by omega
    have hw:IntKind.wrap .i64 ((i:Int)+1)=((i+1:Nat):Int):=by rw [bz (by omega) (by omega)];omega
    have e0:ps[i].who=qs[i].who->ps[i].bF=qs[i].bF->ps[i].units=qs[i].units->∀ j (h1:j < ps.length) (h2:j < qs.length),j < i+1->ps[j]=qs[j]:=by
     intro a b c j h1 h2 hj;rcases Nat.lt_or_ge j i with h | h
     ·exact hI j h1 h2 h
     ·obtain rfl:j=i:=by omega
      cases hp:ps[j];cases hq:qs[j];simp_all
    have e1:ps[i]≠qs[i]->ps≠qs:=by rintro h rfl;exact h rfl
    simp only [go_sem,seval,jX ps hi',jX qs hi2]
    repeat' with_reducible first|apply And.intro|exact .dq|refine aa.pure (by assumption) ?_|refine .aH (fun h=>?_) fun h=>?_|refine .aF (fun h=>?_) fun h=>?_|refine .aK (fun h=>?_) fun h=>?_|refine .split (fun h=>?_) fun h=>?_|refine .id ?_|refine ah.next (by omega) ?_ ?_|exact trivial|simp only [*,go_sem,seval,jX ps hi',jX qs hi2]
    all_goals first
     | omega
     | (refine (decide_eq_false (e1 fun e=>?_)).symm;rw [e] at h;simp at h;done)
     | (simp only [bne_eq_false_iff_eq] at *;intro j h1 h2 hj;exact e0 (by assumption) (by assumption) (by assumption) j (by omega) (by omega) hj)
   ·obtain rfl:i=ps.length:=by omega
    have:=SE hlen (fun j h1 h2=>hI j h1 h2 (by omega))
    repeat' with_reducible first|apply And.intro|exact .dq|refine aa.pure (by assumption) ?_|refine .aH (fun h=>?_) fun h=>?_|refine .aF (fun h=>?_) fun h=>?_|refine .aK (fun h=>?_) fun h=>?_|refine .split (fun h=>?_) fun h=>?_|refine .id ?_|refine ah.next (by omega) ?_ ?_|exact trivial|simp only [*,go_sem,seval]
    all_goals (simp_all;done)
theorem Mg (ps:List eW) (hl:ps.length < 2 ^ 30):Abs.Spec Tryz.prog 44 [] [.sl 3 (pl ps)] [.own 3 (pl ps)] (.ref 0):=by
 refine aU 8 1 [.tmp 2] mixed Tryz.func44 ?_;simp only [go_sem,seval];refine gU.sO agu rfl (by omega) ?_;intro b hb
 repeat' with_reducible first|apply And.intro|exact .dq|refine aa.pure (by assumption) ?_|refine .aH (fun h=>?_) fun h=>?_|refine .aF (fun h=>?_) fun h=>?_|refine .aK (fun h=>?_) fun h=>?_|refine .split (fun h=>?_) fun h=>?_|refine .id ?_|refine ah.next (by omega) ?_ ?_|exact trivial|simp only [*,go_sem,seval]
 all_goals first
  | omega
  | (rw [hb (by assumption)])
  | skip
def dS (ps:List eW) (w a u:Int):Int:=
 if gj ps=false then 14 else if (fc w a&&decide (-1099511627776<=u)&&decide (u<=1099511627776))=false then 3 else
  if bU w a ps+u < 0 then 13 else if bU w a ps+u > 1099511627776 then 1 else 0
def cQ (ps:List eW) (w a u:Int):List eW:=if dS ps w a u=0 then FR w a (bU w a ps+u) ps else []
theorem wK {w a:Int}:∀ {ps:List eW},(∀ p∈ps,p.ok)->0<=bU w a ps/\bU w a ps<=1099511627776
 | [],_=>by simp [bU]
 | p :: r,h=>by
  have h1:=(h p (by simp)).2;have h2:=wK (w:=w) (a:=a) (ps:=r) fun q hq=>h q (by simp [hq])
  simp only [bU];split<;>omega
def within (a b c:Int):Bool:=decide (b<=a)&&decide (a<=c)
theorem eU (a b c:Int):Abs.Spec Tryz.prog 50 [] [.int .i64 a,.int .i64 b,.int .i64 c] [] (.bool (within a b c)):=by
 refine Abs.Spec.go (n:=15) (np:=3) (rs:=[.tmp 6]) mixed Tryz.func50 rfl rfl rfl rfl rfl (by simp) (by simp) ?_;simp only [go_sem,seval];refine bZ.split (fun h=>?_) (fun h=>?_)<;>simp only [h,go_sem,seval]
 all_goals simp [within,h]
def ints (xs:List Int):List (List D):=xs.map fun x=>[.int .i64 x]
def bS (x:Int):Bool:=decide (-4611686018427387904<=x)&&decide (x<=4611686018427387904)
def right (xs:List Int):Bool:=xs.all bS
theorem az (xs:List Int):(ints xs).length=xs.length:=by simp [ints]
theorem ints_at (xs:List Int) {i:Nat} (h:i < xs.length):(ints xs).getD i []=[.int .i64 xs[i]]:=by simp [ints,h]
theorem wrap64 {x:Int} (h:-9223372036854775808<=x) (h':x<=9223372036854775807):IntKind.wrap .i64 x=x:=by
 rw [IntKind.wrap_i64];omega
theorem lg (xs:List Int) (hl:xs.length < 2 ^ 62):Abs.Spec Tryz.prog 106 [] [.sl 1 (ints xs)] [] (.bool (right xs)):=by
 refine Abs.Spec.go (n:=18) (np:=1) (rs:=[.tmp 2]) mixed Tryz.func106 rfl rfl rfl rfl rfl (by simp) (by simp) ?_;simp only [go_sem,seval];refine ⟨Nat,fun i=>[(2,.bool false),(5,.sl 1 (ints xs)),(6,.int .i64 xs.length),(7,.int .i64 i)],fun i=>[],fun i=>i<=xs.length/\right (xs.take i)=true,fun i=>xs.length-i,0,?_,?_,?_⟩
 ·simp [right]
 ·simp only [go_sem,seval,az]<;>simp
 ·rintro i ⟨hi,hr⟩
  simp only [go_sem,seval];refine bH.split (fun h=>?_) (fun h=>?_)
  ·have hi':i < xs.length:=by simpa using h
   simp only [go_sem,seval,Int.toNat_natCast,ints_at xs hi'];refine ⟨by simp [az,hi'],?_⟩
   have bad:bS xs[i]=false->false=right xs:=fun hx=>by
    symm;simp only [right,List.all_eq_false]
    exact ⟨xs[i],List.getElem_mem hi',by simp [hx]⟩
   refine .aK (fun h=>?_) (fun h=>?_)<;>simp only [h,go_sem,seval]
   ·refine .split (fun h2=>?_) (fun h2=>?_)<;>simp only [h2,go_sem,seval]
    ·exact bad (by simp [bS] at h2 |-;omega)
    ·refine ⟨i+1,⟨hi',?_⟩,?_,by simp only;omega⟩
     ·rw [right,List.take_succ_eq_append_getElem hi',List.all_append];rw [right] at hr;rw [hr];simp [bS] at h h2 |-;omega
     ·simp only [go_sem,seval,az];rw [wrap64 (by omega) (by omega)];simp
   ·exact bad (by simp [bS] at h |-;omega)
  ·simp only [go_sem,seval];have:i=xs.length:=by simp at h;omega
   subst this;simpa using hr.symm
structure av where
 a:Int
 b:Int
 c:Int
 d:Int
@[reducible] def av.cells (x:av):List D:=[.int .i64 x.a,.int .i64 x.b,.int .i64 x.c,.int .i64 x.d]
def av.ok (x:av):Bool:=within x.a 1 6&&within x.b 0 2&&within x.c 1 1073741824&&within x.d 0 10000
theorem rS (x:av):Abs.Spec Tryz.prog 104 [] [.agg x.cells] [] (.bool x.ok):=by
 refine Abs.Spec.go (n:=21) (np:=1) (rs:=[.tmp 2]) mixed Tryz.func104 rfl rfl rfl rfl rfl (by simp) (by simp) ?_;simp only [av.cells];simp only [go_sem,seval]
 repeat' (with_reducible first
  | apply And.intro
  | refine aa.pure (eU _ _ _) ?_
  | refine bZ.aK (fun h=>?_) (fun h=>?_)
  | refine bZ.split (fun h=>?_) (fun h=>?_)
  | simp only [*,go_sem,seval])
 all_goals simp [av.ok, *]
theorem qM (x:av):Abs.Spec Tryz.prog 103 [] [.agg x.cells] [] (.int .i64 x.a):=by
 refine Abs.Spec.go (n:=5) (np:=1) (rs:=[.tmp 2]) mixed Tryz.func103 rfl rfl rfl rfl rfl (by simp) (by simp) ?_;simp only [av.cells];simp only [go_sem,seval]
def cw {A:Type} (no:A->Int) (ok:A->Bool) (xs:List A) (i:Nat):Bool:=match xs[i]? with
 | some x=>ok x&&(match i with
  | 0=>true
  | j+1=>match xs[j]? with
   | some y=>decide (no y < no x)
   | none=>true)
 | none=>true
theorem ga {A:Type} (no:A->Int) (ok:A->Bool) (xs:List A) {i:Nat} (hi:i < xs.length) (h:¬ 0 < i):cw no ok xs i=ok xs[i]:=by
 have:i=0:=by omega
 subst this;simp [cw,hi]
theorem fV {A:Type} (no:A->Int) (ok:A->Bool) (xs:List A) {i:Nat} (hi:i < xs.length) (h:0 < i):cw no ok xs i=(ok xs[i]&&decide (no xs[i-1] < no xs[i])):=by
 obtain ⟨j,rfl⟩:∃ j,i=j+1:=⟨i-1,by omega⟩
 have:j < xs.length:=by omega
 simp [cw,hi,this]
def iQ {A:Type} (no:A->Int) (ok:A->Bool) (xs:List A):Bool:=(List.range xs.length).all (cw no ok xs)
theorem aD {A:Type} {c:A->List D} (xs:List A) {i:Nat} (h:i < xs.length):(xs.map c).getD i []=c xs[i]:=by simp [h]
theorem zK (xs:List av) (hl:xs.length < 2 ^ 62):Abs.Spec Tryz.prog 102 [] [.sl 4 (xs.map av.cells),.fn 103 [],.fn 104 []] [] (.bool (iQ av.a av.ok xs)):=by
 refine Abs.Spec.go (n:=38) (np:=3) (rs:=[.tmp 6]) mixed Tryz.func102 rfl rfl rfl rfl rfl (by simp) (by simp) ?_;simp only [go_sem,seval,aI];refine ⟨Nat,fun i=>[(6,.bool false),(0,.sl 4 (xs.map av.cells)),(1,.fn 103 []),(2,.fn 104 []),(9,.sl 4 (xs.map av.cells)),(10,.int .i64 xs.length),(11,.int .i64 i)],fun i=>[],fun i=>i<=xs.length/\∀ j,j < i->cw av.a av.ok xs j=true,fun i=>xs.length-i,0,?_,?_,?_⟩
 ·simp
 ·simp only [go_sem,seval,aI]<;>simp
 ·rintro i ⟨hi,hr⟩
  simp only [go_sem,seval];refine bH.split (fun h=>?_) (fun h=>?_)
  ·have hi':i < xs.length:=by simpa using h
   have bad:cw av.a av.ok xs i=false->iQ av.a av.ok xs=false:=fun hx=>by
    simp only [iQ,List.all_eq_false];exact ⟨i,List.mem_range.2 hi',by simp [hx]⟩
   simp only [go_sem,seval,Int.toNat_natCast,aD xs hi',av.cells];refine ⟨by simp [hi'],?_⟩
   have next:cw av.a av.ok xs i=true->∀ j,j < i+1->cw av.a av.ok xs j=true:=fun hx j hj=>by
    rcases Nat.lt_succ_iff_lt_or_eq.1 hj with h1 | rfl
    ·exact hr j h1
    ·exact hx
   by_cases h0:0 < i
   ·have hw:IntKind.wrap .i64 ((i:Int)-1)=((i-1:Nat):Int):=by rw [wrap64 (by omega) (by omega)];omega
    have hp:i-1 < xs.length:=by omega
    have hg:decide (0 < (i:Int))=true:=by simp;omega
    have hm:=aD (c:=av.cells) xs hp;have hra:=fV av.a av.ok xs hi' h0
    repeat' (with_reducible first
     | apply And.intro
     | exact ji.mk (by kernel_rfl)
     | exact DH.mk (by kernel_rfl)
     | refine aa.pure (rS _) ?_
     | refine aa.pure (qM _) ?_
     | refine bZ.aK (fun h=>?_) (fun h=>?_)
     | refine bZ.split (fun h=>?_) (fun h=>?_)
     | refine bH.split (fun h=>?_) (fun h=>?_)
     | refine fm.id ?_
     | simp only [hw,hg,hm,go_sem,seval, *,Int.toNat_natCast,av.cells])
    ·simp;omega
    ·exact (bad (by rw [hra];simp at h;simp;intro _;omega)).symm
    ·refine ⟨i+1,⟨hi',next (by rw [hra];simp at h;simp [*])⟩,?_,by simp only;omega⟩;simp only [go_sem,seval,aI];rw [wrap64 (by omega) (by omega)];simp
   ·have hg:decide (0 < (i:Int))=false:=by simp;omega
    have hra:=ga av.a av.ok xs hi' h0
    repeat' (with_reducible first
     | apply And.intro
     | exact ji.mk (by kernel_rfl)
     | exact DH.mk (by kernel_rfl)
     | refine aa.pure (rS _) ?_
     | refine aa.pure (qM _) ?_
     | refine bZ.aK (fun h=>?_) (fun h=>?_)
     | refine bZ.split (fun h=>?_) (fun h=>?_)
     | refine bH.split (fun h=>?_) (fun h=>?_)
     | refine fm.id ?_
     | simp only [hg,go_sem,seval, *,Int.toNat_natCast,av.cells])
    ·refine ⟨i+1,⟨hi',next (by rw [hra];simp [*])⟩,?_,by simp only;omega⟩;simp only [go_sem,seval,aI];rw [wrap64 (by omega) (by omega)];simp
  ·simp only [go_sem,seval];have:i=xs.length:=by simp at h;omega
   subst this
   symm
   simpa [iQ] using hr
theorem Oy (a k:Nat) (hk:k<=64):Dy .u64 (a:Int) (k:Int)=((a / 2 ^ k:Nat):Int):=by
 unfold Dy;have h1:min (Int.toNat (k:Int)) (IntKind.bits .u64)=k:=by simp [IntKind.bits];omega
 rw [h1,Int.fdiv_eq_ediv_of_nonneg _ (by exact_mod_cast Nat.zero_le _)]
 push_cast
 rfl
theorem j6 (a:Nat):Dy .u64 (a:Int) 32=((a / 4294967296:Nat):Int):=Oy a 32 (by omega)
theorem Xv (a:Nat):Dy .u64 (a:Int) 16=((a / 65536:Nat):Int):=Oy a 16 (by omega)
theorem aaT (a:Nat):Dy .u64 (a:Int) 8=((a / 256:Nat):Int):=Oy a 8 (by omega)
def Ok:ByteArray:=⟨((List.append (α:=UInt8) [0,1,2,2,3,3,3,3,4,4,4,4,4,4,4,4,5,5,5,5,5,5,5,5,5,5,5,5,5,5,5,5,6,6,6,6,6,6,6,6,6,6,6,6,6,6,6,6,6,6,6,6,6,6,6,6,6,6,6,6,6,6,6,6] [7,7,7,7,7,7,7,7,7,7,7,7,7,7,7,7,7,7,7,7,7,7,7,7,7,7,7,7,7,7,7,7,7,7,7,7,7,7,7,7,7,7,7,7,7,7,7,7,7,7,7,7,7,7,7,7,7,7,7,7,7,7,7,7]).append (List.append (α:=UInt8) [8,8,8,8,8,8,8,8,8,8,8,8,8,8,8,8,8,8,8,8,8,8,8,8,8,8,8,8,8,8,8,8,8,8,8,8,8,8,8,8,8,8,8,8,8,8,8,8,8,8,8,8,8,8,8,8,8,8,8,8,8,8,8,8] [8,8,8,8,8,8,8,8,8,8,8,8,8,8,8,8,8,8,8,8,8,8,8,8,8,8,8,8,8,8,8,8,8,8,8,8,8,8,8,8,8,8,8,8,8,8,8,8,8,8,8,8,8,8,8,8,8,8,8,8,8,8,8,8])).toArray⟩
theorem aaZ:ByteArray.mk (((List.append (α:=UInt8) [0,1,2,2,3,3,3,3,4,4,4,4,4,4,4,4,5,5,5,5,5,5,5,5,5,5,5,5,5,5,5,5,6,6,6,6,6,6,6,6,6,6,6,6,6,6,6,6,6,6,6,6,6,6,6,6,6,6,6,6,6,6,6,6] [7,7,7,7,7,7,7,7,7,7,7,7,7,7,7,7,7,7,7,7,7,7,7,7,7,7,7,7,7,7,7,7,7,7,7,7,7,7,7,7,7,7,7,7,7,7,7,7,7,7,7,7,7,7,7,7,7,7,7,7,7,7,7,7]).append (List.append (α:=UInt8) [8,8,8,8,8,8,8,8,8,8,8,8,8,8,8,8,8,8,8,8,8,8,8,8,8,8,8,8,8,8,8,8,8,8,8,8,8,8,8,8,8,8,8,8,8,8,8,8,8,8,8,8,8,8,8,8,8,8,8,8,8,8,8,8] [8,8,8,8,8,8,8,8,8,8,8,8,8,8,8,8,8,8,8,8,8,8,8,8,8,8,8,8,8,8,8,8,8,8,8,8,8,8,8,8,8,8,8,8,8,8,8,8,8,8,8,8,8,8,8,8,8,8,8,8,8,8,8,8])).toArray)=Ok:=rfl
def L8 (x:Nat):Nat:=((Ok[x]?).map (·.toNat)).getD 0
def Vt (x:Nat):Nat:=if 256<=x then 8+L8 (x / 256) else L8 x
def XL (x:Nat):Nat:=if 65536<=x then 16+Vt (x / 65536) else Vt x
def Rs (x:Nat):Nat:=if 4294967296<=x then 32+XL (x / 4294967296) else XL x
theorem Wq:(List.range 256).all (fun x=>decide (x < 2 ^ L8 x)&&(x==0||decide (2 ^ L8 x<=2*x))&&decide (L8 x<=8))=true:=by kernel_rfl
theorem US (x:Nat) (h:x < 256):x < 2 ^ L8 x/\(0 < x->2 ^ L8 x<=2*x)/\L8 x<=8:=by
 have:=List.all_eq_true.1 Wq x (List.mem_range.2 h);simp only [cg,Bool.or_eq_true,decide_eq_true_eq,beq_iff_eq] at this;refine ⟨this.1.1,?_,this.2⟩;intro h0;rcases this.1.2 with h1 | h1
 ·omega
 ·exact h1
theorem QE (x:Nat) (h:x < 65536):x < 2 ^ Vt x/\(0 < x->2 ^ Vt x<=2*x)/\Vt x<=16:=by
 unfold Vt;split
 ·obtain ⟨h1,h2,h3⟩:=US (x / 256) (by omega);have:=h2 (by omega);rw [Nat.pow_add];refine ⟨by omega,by omega,by omega⟩
 ·obtain ⟨h1,h2,h3⟩:=US x (by omega);exact ⟨h1,h2,by omega⟩
theorem Rl (x:Nat) (h:x < 4294967296):x < 2 ^ XL x/\(0 < x->2 ^ XL x<=2*x)/\XL x<=32:=by
 unfold XL;split
 ·obtain ⟨h1,h2,h3⟩:=QE (x / 65536) (by omega);have:=h2 (by omega);rw [Nat.pow_add];refine ⟨by omega,by omega,by omega⟩
 ·obtain ⟨h1,h2,h3⟩:=QE x (by omega);exact ⟨h1,h2,by omega⟩
theorem QL (x:Nat) (h:x < 18446744073709551616):x < 2 ^ Rs x/\(0 < x->2 ^ Rs x<=2*x)/\Rs x<=64:=by
 unfold Rs;split
 ·obtain ⟨h1,h2,h3⟩:=Rl (x / 4294967296) (by omega);have:=h2 (by omega);rw [Nat.pow_add];refine ⟨by omega,by omega,by omega⟩
 ·obtain ⟨h1,h2,h3⟩:=Rl x (by omega);exact ⟨h1,h2,by omega⟩
theorem u8w {x:Int} (h:0<=x) (h':x < 256):IntKind.wrap .u8 x=x:=by rw [IntKind.wrap_u8];omega
theorem w48:IntKind.wrap .i64 48=48:=by decide
theorem w56:IntKind.wrap .i64 56=56:=by decide
theorem w40:IntKind.wrap .i64 40=40:=by decide
theorem w16:IntKind.wrap .i64 16=16:=by decide
theorem w24:IntKind.wrap .i64 24=24:=by decide
theorem w8:IntKind.wrap .i64 8=8:=by decide
theorem l8D {i:Nat}:(((Ok[i]?).map fun x=>(x.toNat:Int)).getD 0)=(L8 i:Int):=by
 unfold L8;cases Ok[i]?<;>simp
theorem aau (i:Nat):L8 i<=255:=by
 unfold L8;cases Ok[i]? with
 | none=>simp
 | some b=>simpa using Nat.le_of_lt_succ b.toNat_lt
theorem wL {c:Int} (h:0<=c/\c<=100) (i:Nat):IntKind.wrap .i64 (c+IntKind.wrap .i64 (L8 i:Int))=c+L8 i:=by
 have:=aau i;rw [wrap64 (x:=(L8 i:Int)) (by omega) (by omega),wrap64 (by omega) (by omega)]
theorem O7:Ok.size=256:=by kernel_rfl
set_option maxRecDepth 20000 in
theorem PN (x:Nat) (hx:x < 18446744073709551616):Abs.Spec Tryz.prog 293 [] [.int .u64 x] [] (.int .i64 (Rs x)):=by
 refine Abs.Spec.go (n:=25) (np:=1) (rs:=[.tmp 2]) mixed Tryz.func293 rfl rfl rfl rfl rfl (by simp) (by simp) ?_;simp only [go_sem,seval]
 repeat' (with_reducible first
  | apply And.intro
  | refine bH.split (fun h=>?_) (fun h=>?_)
  | refine fm.id ?_
  | simp only [*,go_sem,seval,j6,Xv,aaT,w48,w56,w40,w16,w24,w8,aaZ])
 all_goals (simp only [decide_eq_true_eq,decide_eq_false_iff_not] at *)
 all_goals first
  | (rw [O7,u8w (by omega) (by omega)];omega)
  | skip
 all_goals (rw [u8w (by omega) (by omega),Int.toNat_natCast,l8D])
 all_goals (simp only [Rs,XL,Vt])
 all_goals (repeat (rw [if_pos (by omega)]))
 all_goals (repeat (rw [if_neg (by omega)]))
 all_goals (repeat (rw [if_pos (by omega)]))
 all_goals (repeat (rw [if_neg (by omega)]))
 all_goals (repeat (rw [if_pos (by omega)]))
 all_goals (rw [wL (by omega)])
 all_goals omega
theorem SF (x:Nat) (hx:x < 18446744073709551616):Abs.Spec Tryz.prog 287 [] [.int .u64 x] [] (.int .i64 ((64-Rs x:Nat):Int)):=by
 refine Abs.Spec.go (n:=6) (np:=1) (rs:=[.tmp 2]) mixed Tryz.func287 rfl rfl rfl rfl rfl (by simp) (by simp) ?_;simp only [go_sem,seval];refine aa.pure (PN x hx) ?_;simp only [go_sem,seval];have:=(QL x hx).2.2;rw [wrap64 (by omega) (by omega)];omega
theorem lp (a:Nat):Wl .u64 (a:Int) 4294967295=((a%4294967296:Nat):Int):=by
 unfold Wl;rw [BitVec.toNat_and,BitVec.toNat_ofInt,BitVec.toNat_ofInt];simp only [IntKind.bits];have h:((4294967295:Int)%((2 ^ 64:Nat):Int)).toNat=2 ^ 32-1:=by omega
 rw [h,Nat.and_two_pow_sub_one_eq_mod,IntKind.wrap_u64];omega
theorem MZ (a b:Nat):(a:Int).tdiv (b:Int)=((a / b:Nat):Int):=by rw [Int.tdiv_eq_ediv_of_nonneg (by omega)];rfl
theorem aa9 (a b:Nat):(a:Int).tmod (b:Int)=((a%b:Nat):Int):=by rw [Int.tmod_eq_emod_of_nonneg (by omega)];rfl
set_option maxRecDepth 20000 in
theorem BI (x y:Nat) (hx:x < 18446744073709551616) (hy:y < 18446744073709551616):Abs.Spec Tryz.prog 206 [] [.int .u64 x,.int .u64 y] [] (.bD [.int .u64 ((x*y / 18446744073709551616:Nat):Int),.int .u64 ((x*y%18446744073709551616:Nat):Int)]):=by
 obtain ⟨bd,bt,bw,hhi⟩:=Lib.mul64_hi x y hx hy;have ba:=Lib.half_mul_le (a:=x / 4294967296) (b:=y / 4294967296) (by omega) (by omega);have bb:=Lib.half_mul_le (a:=x / 4294967296) (b:=y%4294967296) (by omega) (by omega);have bc:=Lib.half_mul_le (a:=x%4294967296) (b:=y / 4294967296) (by omega) (by omega);have ba':x / 4294967296*(y / 4294967296) < 18446744073709551616:=by omega
 have bb':x / 4294967296*(y%4294967296) < 18446744073709551616:=by omega
 have bc':x%4294967296*(y / 4294967296) < 18446744073709551616:=by omega
 have bh1:x / 4294967296*(y / 4294967296)+(x / 4294967296*(y%4294967296)+x%4294967296*(y%4294967296) / 4294967296) / 4294967296 < 18446744073709551616:=by omega
 have bh:x / 4294967296*(y / 4294967296)+(x / 4294967296*(y%4294967296)+x%4294967296*(y%4294967296) / 4294967296) / 4294967296+((x / 4294967296*(y%4294967296)+x%4294967296*(y%4294967296) / 4294967296)%4294967296+x%4294967296*(y / 4294967296)) / 4294967296 < 18446744073709551616:=by omega
 refine Abs.Spec.go (n:=51) (np:=2) (rs:=[.tmp 4,.tmp 5]) mixed Tryz.func206 rfl rfl rfl rfl rfl (by simp) (by simp) ?_;simp only [lp,j6,go_sem,seval,Mul64.mulN,Mul64.addN,Mul64.wrapN _ bd,Mul64.wrapN _ bb',Mul64.wrapN _ bt,Mul64.wrapN _ bc',Mul64.wrapN _ bw,Mul64.wrapN _ ba',Mul64.wrapN _ bh1,Mul64.wrapN _ bh,Mul64.wrapM (x*y),hhi];exact Mul64.wrapN _ (hhi ▸ bh)
theorem Oq {s:Nat} (hs:s<=64):2 ^ (64-s)*2 ^ s=18446744073709551616:=by
 rw [<- Nat.pow_add,show 64-s+s=64 by omega]
theorem afH (hi lo y s:Nat) (hs:s<=64) (hh:hi < y) (hl:lo < 18446744073709551616) :
  lo / 2 ^ (64-s) < 2 ^ s/\hi*2 ^ s+lo / 2 ^ (64-s) < y*2 ^ s/\(hi*2 ^ s+lo / 2 ^ (64-s))*18446744073709551616+lo*2 ^ s%18446744073709551616=(hi*18446744073709551616+lo)*2 ^ s:=by
 have hp:=Oq hs
 have h1:lo / 2 ^ (64-s) < 2 ^ s:=by
  rw [Nat.div_lt_iff_lt_mul (Nat.two_pow_pos _),Nat.mul_comm,hp];exact hl
 refine ⟨h1,?_,?_⟩
 ·have h2:(hi+1)*2 ^ s<=y*2 ^ s:=Nat.mul_le_mul_right _ hh;rw [Nat.add_mul,Nat.one_mul] at h2;omega
 ·have h3:lo*2 ^ s / 18446744073709551616=lo / 2 ^ (64-s):=by
   rw [<- hp,Nat.mul_div_mul_right _ _ (Nat.two_pow_pos s)]
  have h4:=Nat.div_add_mod (lo*2 ^ s) 18446744073709551616;rw [h3] at h4;have h5:hi*18446744073709551616*2 ^ s=hi*2 ^ s*18446744073709551616:=by rw [Nat.mul_assoc,Nat.mul_comm 18446744073709551616,<- Nat.mul_assoc]
  rw [Nat.add_mul,Nat.add_mul,h5];omega
structure JA (un d a b q r:Nat):Prop where
 sum:q*a+r=un
 small:r < 4294967296
 top:q<=4294967297
 least:(un*4294967296+d) / (a*4294967296+b)<=q
section
variable {un d a b q r:Nat}
theorem qv (q a b:Nat):q*(a*4294967296+b)=q*a*4294967296+q*b:=by rw [Nat.mul_add,Nat.mul_assoc]
theorem JA.start (ha:2147483648<=a) (ha':a < 4294967296) (hb:b < 4294967296) (hd:d < 4294967296) (hu:un < a*4294967296+b):JA un d a b (un / a) (un%a):=by
 have hm:=Nat.div_add_mod un a;have hl:=Nat.mod_lt un (show 0 < a by omega)
 have hq:un / a<=4294967297:=by
  apply Nat.le_of_lt_succ;rw [Nat.div_lt_iff_lt_mul (by omega)];omega
 refine ⟨by rw [Nat.mul_comm];exact hm,by omega,hq,?_⟩;apply Nat.le_of_lt_succ;rw [Nat.div_lt_iff_lt_mul (by omega),Nat.succ_eq_add_one,qv,Nat.add_mul,Nat.one_mul];have:un / a*a=a*(un / a):=Nat.mul_comm _ _;omega
theorem JA.stop (h:JA un d a b q r) (hv:0 < a) (h1:q*b<=4294967296*r+d):q=(un*4294967296+d) / (a*4294967296+b):=by
 refine Nat.le_antisymm ?_ h.least;rw [Nat.le_div_iff_mul_le (by omega),qv];have:=h.sum;omega
theorem JA.step (h:JA un d a b q r) (hu:un < a*4294967296+b) (hd:d < 4294967296) (h1:4294967296<=q\/4294967296*r+d < q*b) :
  0 < q/\(q-1)*a+(r+a)=un/\q-1<=4294967296/\(un*4294967296+d) / (a*4294967296+b)<=q-1:=by
 have hq:0 < q:=by
  rcases h1 with h1 | h1
  ·omega
  ·rcases Nat.eq_zero_or_pos q with h0 | h0
   ·subst h0;omega
   ·exact h0
 obtain ⟨p,rfl⟩:∃ p,q=p+1:=⟨q-1,by omega⟩
 have hs:=h.sum;rw [Nat.add_mul,Nat.one_mul] at hs;have ht:=h.top;refine ⟨hq,by simp only [Nat.add_sub_cancel];omega,by omega,?_⟩;simp only [Nat.add_sub_cancel];apply Nat.le_of_lt_succ;rw [Nat.div_lt_iff_lt_mul (by omega),Nat.succ_eq_add_one,qv];have e1:(p+1)*a=p*a+a:=by rw [Nat.add_mul,Nat.one_mul]
 have e2:(p+1)*b=p*b+b:=by rw [Nat.add_mul,Nat.one_mul]
 rw [e1];rcases h1 with h1 | h1
 ·have:4294967296*b<=(p+1)*b:=Nat.mul_le_mul_right _ h1;have h2:4294967296*a<=(p+1)*a:=Nat.mul_le_mul_right _ h1;omega
 ·have:=h.small;omega
theorem JA.brk (hsum:q*a+r=un) (ht:q<=4294967296) (hl:(un*4294967296+d) / (a*4294967296+b)<=q) (hb:b < 4294967296) (hv:0 < a) (hr:4294967296<=r):q=(un*4294967296+d) / (a*4294967296+b):=by
 refine Nat.le_antisymm ?_ hl;rw [Nat.le_div_iff_mul_le (by omega),qv];have h1:q*b<=4294967296*4294967296:=Nat.mul_le_mul ht (by omega);omega
end
theorem two (N un W v:Nat) (hN:un*18446744073709551616+W=N) (hW:W < 18446744073709551616) (hv:0 < v) (hu:un < v) :
  N / v=(un*4294967296+W / 4294967296) / v*4294967296+((un*4294967296+W / 4294967296)%v*4294967296+W%4294967296) / v /\
  N%v=((un*4294967296+W / 4294967296)%v*4294967296+W%4294967296)%v:=by
 have e1:=Nat.div_add_mod (un*4294967296+W / 4294967296) v
 have hN':N=((un*4294967296+W / 4294967296)%v*4294967296+W%4294967296)+v*((un*4294967296+W / 4294967296) / v*4294967296):=by
  rw [<- Nat.mul_assoc];omega
 constructor
 ·rw [hN',Nat.add_mul_div_left _ _ hv,Nat.add_comm]
 ·rw [hN',Nat.add_mul_mod_self_left]
theorem V3 (a k:Nat) (hk:k<=64):Ac .u64 (a:Int) (k:Int)=((a*2 ^ k%18446744073709551616:Nat):Int):=by
 unfold Ac;have h1:min (Int.toNat (k:Int)) (IntKind.bits .u64)=k:=by simp [IntKind.bits];omega
 rw [h1,IntKind.wrap_u64,Int.natCast_emod,Int.natCast_mul,Int.natCast_pow];rfl
theorem orN (a b k:Nat) (hb:b < 2 ^ k) (h:a*2 ^ k+b < 18446744073709551616):YG .u64 ((a*2 ^ k:Nat):Int) (b:Int)=((a*2 ^ k+b:Nat):Int):=by
 unfold YG;rw [BitVec.toNat_or,BitVec.toNat_ofInt,BitVec.toNat_ofInt];simp only [IntKind.bits];have h1:(((a*2 ^ k:Nat):Int)%((2 ^ 64:Nat):Int)).toNat=a*2 ^ k:=by omega
 have h2:((b:Int)%((2 ^ 64:Nat):Int)).toNat=b:=by omega
 rw [h1,h2,Nat.mul_comm a,<- Nat.two_pow_add_eq_or_of_lt hb,Nat.mul_comm,IntKind.wrap_u64];omega
theorem acp (a b X m:Int) (h:X+m=a+b) (h0:0<=m) (h1:m < 18446744073709551616):IntKind.wrap .u64 (IntKind.wrap .u64 (IntKind.wrap .u64 a+b)-IntKind.wrap .u64 X)=m:=by
 simp only [IntKind.wrap_u64];rw [Int.emod_add_emod,<- Int.sub_emod,<- h,show X+m-X=m by omega];exact Int.emod_eq_of_lt h0 h1
theorem abW (un w v q m:Nat) (hq:q=(un*4294967296+w) / v) (hm:m=(un*4294967296+w)%v) (hv:m < v) (hv2:v < 18446744073709551616):IntKind.wrap .u64 (IntKind.wrap .u64 (IntKind.wrap .u64 ((un:Int)*4294967296)+(w:Int))-IntKind.wrap .u64 ((q:Int)*(v:Int)))=(m:Int):=by
 have h0:=Nat.div_add_mod (un*4294967296+w) v;rw [<- hm,<- hq,Nat.mul_comm v] at h0;refine acp _ _ _ _ ?_ (Int.natCast_nonneg _) ?_
 ·rw [Mul64.mulN];generalize q*v=x at h0 |-;omega
 ·omega
theorem afG (q q0 Q:Nat) (h:q*4294967296+q0=Q) (hQ:Q < 18446744073709551616):IntKind.wrap .u64 (IntKind.wrap .u64 ((q:Int)*4294967296)+(q0:Int))=(Q:Int):=by
 simp only [IntKind.wrap_u64];omega
set_option maxRecDepth 20000 in
set_option maxHeartbeats 1000000 in
theorem Le (hi lo y:Nat) (hy:y < 18446744073709551616) (hh:hi < y) (hl:lo < 18446744073709551616):Abs.Spec Tryz.prog 263 [] [.int .u64 hi,.int .u64 lo,.int .u64 y] [] (.bD [.int .u64 ((hi*18446744073709551616+lo) / y:Nat),.int .u64 ((hi*18446744073709551616+lo)%y:Nat)]):=by
 have h1:((y:Int)==0)=false:=by simp;omega
 have h2:decide ((y:Int)<=hi)=false:=by simp;omega
 refine Abs.Spec.go (n:=135) (np:=3) (rs:=[.tmp 6,.tmp 7]) mixed Tryz.func263 rfl rfl rfl rfl rfl (by simp) (by simp) ?_;simp only [lp,j6,go_sem,seval,h1,h2];refine bH.split (fun h=>?_) (fun h=>?_)
 ·simp only [lp,j6,go_sem,seval,h1,h2,h];have:hi=0:=by simpa using h
  subst this;refine ⟨ji.mk (by kernel_rfl),?_,?_,?_,?_⟩
  ·omega
  ·omega
  ·rw [MZ,Mul64.wrapN]
   ·simp
   ·exact Nat.lt_of_le_of_lt (Nat.div_le_self _ _) hl
  ·rw [aa9];simp
 ·obtain ⟨l1,l2,l3⟩:=QL y hy;have l2:=l2 (by omega);obtain ⟨s,hs⟩:=aO (64-Rs y);have hs64:s<=64:=by omega
  have hp:2 ^ Rs y*2 ^ s=18446744073709551616:=by rw [<- Nat.pow_add,show Rs y+s=64 by omega]
  have hv1:y*2 ^ s < 18446744073709551616:=by rw [<- hp];exact Nat.mul_lt_mul_of_pos_right l1 (Nat.two_pow_pos s)
  have hv2:18446744073709551616<=2*(y*2 ^ s):=by rw [<- hp,<- Nat.mul_assoc];exact Nat.mul_le_mul_right _ l2
  obtain ⟨p1,p2,p3⟩:=afH hi lo y s hs64 hh hl;obtain ⟨v,hv⟩:=aO (y*2 ^ s);obtain ⟨un,hun⟩:=aO (hi*2 ^ s+lo / 2 ^ (64-s));obtain ⟨W,hW⟩:=aO (lo*2 ^ s%18446744073709551616);have hvl:v < 18446744073709551616:=by rw [hv];exact hv1
  have hvg:18446744073709551616<=2*v:=by rw [hv];exact hv2
  have huv:un < v:=by rw [hun,hv];exact p2
  have hA:hi*2 ^ s<=un:=by rw [hun];exact Nat.le_add_right _ _
  have hWl:W < 18446744073709551616:=by rw [hW];exact Nat.mod_lt _ (by decide)
  have e1:IntKind.wrap .u64 ((64-Rs y:Nat):Int)=(s:Int):=by rw [<- hs,Mul64.wrapN _ (by omega)]
  have e2:Ac .u64 (y:Int) (s:Int)=(v:Int):=by rw [V3 _ _ hs64,hv,Nat.mod_eq_of_lt hv1]
  have e3:IntKind.wrap .u64 (64-(s:Int))=((64-s:Nat):Int):=by rw [IntKind.wrap_u64];omega
  have e4:Ac .u64 (hi:Int) (s:Int)=((hi*2 ^ s:Nat):Int):=by rw [V3 _ _ hs64,Nat.mod_eq_of_lt (Nat.lt_of_le_of_lt hA (Nat.lt_trans huv hvl))]
  have e5:Dy .u64 (lo:Int) ((64-s:Nat):Int)=((lo / 2 ^ (64-s):Nat):Int):=Oy _ _ (by omega);have e6:YG .u64 ((hi*2 ^ s:Nat):Int) ((lo / 2 ^ (64-s):Nat):Int)=(un:Int):=by rw [orN _ _ _ p1 (Nat.lt_trans p2 hv1),hun]
  have e7:Ac .u64 (lo:Int) (s:Int)=(W:Int):=by rw [V3 _ _ hs64,hW]
  have hva:v=v / 4294967296*4294967296+v%4294967296:=by omega
  have e8:IntKind.wrap .u64 ((un / (v / 4294967296):Nat):Int)=((un / (v / 4294967296):Nat):Int):=Mul64.wrapN _ (Nat.lt_of_le_of_lt (Nat.div_le_self _ _) (by omega));have d1:JA un (W / 4294967296) (v / 4294967296) (v%4294967296) (un / (v / 4294967296)) (un%(v / 4294967296)):=JA.start (by omega) (by omega) (by omega) (by omega) (by omega)
  have e9:IntKind.wrap .u64 ((un:Int)-IntKind.wrap .u64 (((un / (v / 4294967296):Nat):Int)*((v / 4294967296:Nat):Int)))=((un%(v / 4294967296):Nat):Int):=by
   have:=d1.sum;rw [Mul64.mulN,Mul64.wrapN _ (by omega),IntKind.wrap_u64];omega
  simp only [lp,j6,go_sem,seval,h1,h2,h];refine aa.pure (SF y hy) ?_;simp only [lp,j6,go_sem,seval,h1,h2,h,e1,e2,e3,e4,e5,e6,e7,MZ,e8,e9]
  repeat (refine And.intro (by omega) ?_)
  have fin:∀ x:Nat,(hi*18446744073709551616+lo)*2 ^ s / v=x->x=(hi*18446744073709551616+lo) / y:=fun x hx=>by
   rw [<- hx,hv,Nat.mul_div_mul_right _ _ (Nat.two_pow_pos s)]
  have fin2:∀ x:Nat,(hi*18446744073709551616+lo)*2 ^ s%v=x->x / 2 ^ s=(hi*18446744073709551616+lo)%y:=fun x hx=>by
   rw [<- hx,hv,Nat.mul_mod_mul_right,Nat.mul_div_cancel _ (Nat.two_pow_pos s)]
  obtain ⟨t1,t2⟩:=two ((hi*18446744073709551616+lo)*2 ^ s) un W v (by rw [hun,hW];exact p3) hWl (by omega) huv;have fin:=fin _ t1;have fin2:=fin2 _ t2;have hsr:∀ a:Nat,Dy .u64 (a:Int) (s:Int)=((a / 2 ^ s:Nat):Int):=fun a=>Oy a s hs64
  clear p1 p2 p3 hv1 hv2 hp hW hun hA e1 e2 e3 e4 e5 e6 e7 l1 l2 l3 t1 t2 hv hs;have vpos:0 < v / 4294967296:=by omega
  obtain ⟨m,hm⟩:=aO ((un*4294967296+W / 4294967296)%v);have hmv:m < v:=by rw [hm];exact Nat.mod_lt _ (by omega)
  have hmv':m < v / 4294967296*4294967296+v%4294967296:=by rw [<- hva];exact hmv
  obtain ⟨q1,hq1⟩:=aO ((un*4294967296+W / 4294967296) / v);rw [<- hm,<- hq1] at fin;rw [<- hm] at fin2;have huv':un < v / 4294967296*4294967296+v%4294967296:=by rw [<- hva];exact huv
  have hvr:=hva.symm;refine JN (T:=Unit) (fun _=>[(2,.int .u64 v),(6,.int .u64 0),(7,.int .u64 0),(8,.int .u64 s),(9,.int .u64 (v / 4294967296:Nat)),(10,.int .u64 (v%4294967296:Nat)),(11,.int .u64 un),(13,.int .u64 (W / 4294967296:Nat)),(14,.int .u64 (W%4294967296:Nat)),(15,.int .u64 q1)]) (fun _=>[]) (fun _=>True) (by rfl) ?_ ?_
  ·rintro ⟨⟩ -
   have e10:=abW un (W / 4294967296) v q1 m hq1 hm hmv hvl;have e11:IntKind.wrap .u64 ((m / (v / 4294967296):Nat):Int)=((m / (v / 4294967296):Nat):Int):=Mul64.wrapN _ (Nat.lt_of_le_of_lt (Nat.div_le_self _ _) (by omega));have d2:JA m (W%4294967296) (v / 4294967296) (v%4294967296) (m / (v / 4294967296)) (m%(v / 4294967296)):=JA.start (by omega) (by omega) (by omega) (by omega) hmv'
   have e12:IntKind.wrap .u64 ((m:Int)-IntKind.wrap .u64 (((m / (v / 4294967296):Nat):Int)*((v / 4294967296:Nat):Int)))=((m%(v / 4294967296):Nat):Int):=by
    have:=d2.sum;rw [Mul64.mulN,Mul64.wrapN _ (by omega),IntKind.wrap_u64];omega
   simp only [lp,j6,go_sem,seval,MZ,e10,e11,e12]
   repeat (refine And.intro (by omega) ?_)
   refine JN (T:=Unit) (fun _=>[(2,.int .u64 v),(8,.int .u64 s),(14,.int .u64 (W%4294967296:Nat)),(15,.int .u64 q1),(17,.int .u64 m),(18,.int .u64 ((m*4294967296+W%4294967296) / v:Nat))]) (fun _=>[]) (fun _=>True) (by rfl) ?_ ?_
   ·rintro ⟨⟩ -
    simp only [lp,j6,go_sem,seval,MZ]
    have g1:IntKind.wrap .u64 (IntKind.wrap .u64 ((q1:Int)*4294967296)+(((m*4294967296+W%4294967296) / v:Nat):Int))=(((hi*18446744073709551616+lo) / y:Nat):Int):=by
     have hQ:(hi*18446744073709551616+lo) / y < 18446744073709551616:=by
      rw [Nat.div_lt_iff_lt_mul (by omega)];omega
     exact afG q1 _ _ fin hQ
    have g2:=abW m (W%4294967296) v ((m*4294967296+W%4294967296) / v) ((m*4294967296+W%4294967296)%v) rfl rfl (Nat.mod_lt _ (by omega)) hvl;rw [g1,g2,hsr,fin2];exact ⟨rfl,rfl⟩
   refine ⟨Nat × Nat,fun x=>[(2,.int .u64 v),(6,.int .u64 0),(7,.int .u64 0),(8,.int .u64 s),(9,.int .u64 (v / 4294967296:Nat)),(10,.int .u64 (v%4294967296:Nat)),(14,.int .u64 (W%4294967296:Nat)),(15,.int .u64 q1),(17,.int .u64 m),(18,.int .u64 x.1),(16,.int .u64 x.2)],fun _=>[],fun x=>JA m (W%4294967296) (v / 4294967296) (v%4294967296) x.1 x.2,fun x=>x.1,(m / (v / 4294967296),m%(v / 4294967296)),d2,?_,?_⟩
   ·simp only [go_sem,seval]
   ·rintro ⟨q,r⟩ dg
    simp only at dg;have hsm:=dg.small;have htp:=dg.top;have hsum:=dg.sum;have f1:IntKind.wrap .u64 (4294967296*(r:Int))=((4294967296*r:Nat):Int):=by rw [IntKind.wrap_u64];omega
    have f2:IntKind.wrap .u64 (((4294967296*r:Nat):Int)+((W%4294967296:Nat):Int))=((4294967296*r+W%4294967296:Nat):Int):=by rw [IntKind.wrap_u64];omega
    have f4:IntKind.wrap .u64 ((r:Int)+((v / 4294967296:Nat):Int))=((r+v / 4294967296:Nat):Int):=by rw [IntKind.wrap_u64];omega
    have step:(4294967296<=q\/4294967296*r+W%4294967296 < q*(v%4294967296))->IntKind.wrap .u64 ((q:Int)-1)=((q-1:Nat):Int):=fun hx=>by
     have:=(dg.step hmv' (by omega) hx).1;rw [IntKind.wrap_u64];omega
    simp only [lp,j6,go_sem,seval];refine bZ.aK (fun hq=>?_) (fun hq=>?_)
    ·have hq':q < 4294967296:=by simp at hq;omega
     have hb:q*(v%4294967296) < 18446744073709551616:=by
      have:=Nat.mul_le_mul (show q<=4294967295 by omega) (show v%4294967296<=4294967295 by omega);omega
     simp only [lp,j6,go_sem,seval,hq,f1,f2,Mul64.mulN,Mul64.wrapN _ hb];refine bH.split (fun hc=>?_) (fun hc=>?_)
     ·have hx:4294967296*r+W%4294967296 < q*(v%4294967296):=by rw [decide_eq_true_eq] at hc;exact_mod_cast hc
      obtain ⟨s1,s2,s3,s4⟩:=dg.step hmv' (by omega) (.inr hx);simp only [go_sem,seval,step (.inr hx),f4];refine bH.split (fun hr=>?_) (fun hr=>?_)
      ·simp only [go_sem,seval];have hqt:=JA.brk s2 s3 s4 (by omega) vpos (by rw [decide_eq_true_eq] at hr;omega);rw [hvr] at hqt;refine ⟨(),trivial,?_⟩;simp only [go_sem,seval,hqt]
      ·simp only [go_sem,seval];refine ⟨(q-1,r+v / 4294967296),⟨s2,by rw [decide_eq_false_iff_not] at hr;omega,by omega,s4⟩,?_,by simp only;omega⟩;simp only [go_sem,seval]
     ·simp only [go_sem,seval];have hqt:=dg.stop vpos (by rw [decide_eq_false_iff_not] at hc;have hc':=Int.not_lt.1 hc;exact_mod_cast hc');rw [hvr] at hqt;refine ⟨(),trivial,?_⟩;simp only [go_sem,seval,hqt]
    ·have hx:4294967296<=q:=by simp at hq;omega
     obtain ⟨s1,s2,s3,s4⟩:=dg.step hmv' (by omega) (.inl hx);simp only [lp,j6,go_sem,seval,hq,step (.inl hx),f4];refine bH.split (fun hr=>?_) (fun hr=>?_)
     ·simp only [go_sem,seval];have hqt:=JA.brk s2 s3 s4 (by omega) vpos (by rw [decide_eq_true_eq] at hr;omega);rw [hvr] at hqt;refine ⟨(),trivial,?_⟩;simp only [go_sem,seval,hqt]
     ·simp only [go_sem,seval];refine ⟨(q-1,r+v / 4294967296),⟨s2,by rw [decide_eq_false_iff_not] at hr;omega,by omega,s4⟩,?_,by simp only;omega⟩;simp only [go_sem,seval]

  refine ⟨Nat × Nat,fun x=>[(2,.int .u64 v),(6,.int .u64 0),(7,.int .u64 0),(8,.int .u64 s),(9,.int .u64 (v / 4294967296:Nat)),(10,.int .u64 (v%4294967296:Nat)),(11,.int .u64 un),(13,.int .u64 (W / 4294967296:Nat)),(14,.int .u64 (W%4294967296:Nat)),(15,.int .u64 x.1),(16,.int .u64 x.2)],fun _=>[],fun x=>JA un (W / 4294967296) (v / 4294967296) (v%4294967296) x.1 x.2,fun x=>x.1,(un / (v / 4294967296),un%(v / 4294967296)),d1,?_,?_⟩
  ·simp only [go_sem,seval]
  ·rintro ⟨q,r⟩ dg
   simp only at dg;have hsm:=dg.small;have htp:=dg.top;have hsum:=dg.sum;have f1:IntKind.wrap .u64 (4294967296*(r:Int))=((4294967296*r:Nat):Int):=by rw [IntKind.wrap_u64];omega
   have f2:IntKind.wrap .u64 (((4294967296*r:Nat):Int)+((W / 4294967296:Nat):Int))=((4294967296*r+W / 4294967296:Nat):Int):=by rw [IntKind.wrap_u64];omega
   have f4:IntKind.wrap .u64 ((r:Int)+((v / 4294967296:Nat):Int))=((r+v / 4294967296:Nat):Int):=by rw [IntKind.wrap_u64];omega
   have step:(4294967296<=q\/4294967296*r+W / 4294967296 < q*(v%4294967296))->IntKind.wrap .u64 ((q:Int)-1)=((q-1:Nat):Int):=fun hx=>by
    have:=(dg.step huv' (by omega) hx).1;rw [IntKind.wrap_u64];omega
   simp only [lp,j6,go_sem,seval];refine bZ.aK (fun hq=>?_) (fun hq=>?_)
   ·have hq':q < 4294967296:=by simp at hq;omega
    have hb:q*(v%4294967296) < 18446744073709551616:=by
     have:=Nat.mul_le_mul (show q<=4294967295 by omega) (show v%4294967296<=4294967295 by omega);omega
    simp only [lp,j6,go_sem,seval,hq,f1,f2,Mul64.mulN,Mul64.wrapN _ hb];refine bH.split (fun hc=>?_) (fun hc=>?_)
    ·have hx:4294967296*r+W / 4294967296 < q*(v%4294967296):=by rw [decide_eq_true_eq] at hc;exact_mod_cast hc
     obtain ⟨s1,s2,s3,s4⟩:=dg.step huv' (by omega) (.inr hx);simp only [go_sem,seval,step (.inr hx),f4];refine bH.split (fun hr=>?_) (fun hr=>?_)
     ·simp only [go_sem,seval];have hqt:=JA.brk s2 s3 s4 (by omega) vpos (by rw [decide_eq_true_eq] at hr;omega);rw [hvr,<- hq1] at hqt;refine ⟨(),trivial,?_⟩;simp only [go_sem,seval,hqt]
     ·simp only [go_sem,seval];refine ⟨(q-1,r+v / 4294967296),⟨s2,by rw [decide_eq_false_iff_not] at hr;omega,by omega,s4⟩,?_,by simp only;omega⟩;simp only [go_sem,seval]
    ·simp only [go_sem,seval];have hqt:=dg.stop vpos (by rw [decide_eq_false_iff_not] at hc;have hc':=Int.not_lt.1 hc;exact_mod_cast hc');rw [hvr,<- hq1] at hqt;refine ⟨(),trivial,?_⟩;simp only [go_sem,seval,hqt]
   ·have hx:4294967296<=q:=by simp at hq;omega
    obtain ⟨s1,s2,s3,s4⟩:=dg.step huv' (by omega) (.inl hx);simp only [lp,j6,go_sem,seval,hq,step (.inl hx),f4];refine bH.split (fun hr=>?_) (fun hr=>?_)
    ·simp only [go_sem,seval];have hqt:=JA.brk s2 s3 s4 (by omega) vpos (by rw [decide_eq_true_eq] at hr;omega);rw [hvr,<- hq1] at hqt;refine ⟨(),trivial,?_⟩;simp only [go_sem,seval,hqt]
    ·simp only [go_sem,seval];refine ⟨(q-1,r+v / 4294967296),⟨s2,by rw [decide_eq_false_iff_not] at hr;omega,by omega,s4⟩,?_,by simp only;omega⟩;simp only [go_sem,seval]
theorem hi1 (x:Nat) (P:Int) (h:(x:Int)=P) (hP:-85070591730234615865843651857942052864<=P/\P<=85070591730234615865843651857942052864):IntKind.wrap .i64 ((x / 18446744073709551616:Nat):Int)=P / 18446744073709551616/\((x%18446744073709551616:Nat):Int)=P%18446744073709551616:=by
 rw [IntKind.wrap_i64];omega
theorem hi2 (x:Nat) (P b:Int) (h:(x:Int)=P+18446744073709551616*b) (hP:-85070591730234615865843651857942052864<=P/\P<=85070591730234615865843651857942052864):IntKind.wrap .i64 (IntKind.wrap .u64 (((x / 18446744073709551616:Nat):Int)-b%18446744073709551616))=P / 18446744073709551616/\((x%18446744073709551616:Nat):Int)=P%18446744073709551616:=by
 rw [IntKind.wrap_i64,IntKind.wrap_u64];omega
theorem hi3 (x:Nat) (P a b:Int) (h:(x:Int)=P+18446744073709551616*a+18446744073709551616*b+18446744073709551616*18446744073709551616) (hP:-85070591730234615865843651857942052864<=P/\P<=85070591730234615865843651857942052864) :
  IntKind.wrap .i64 (IntKind.wrap .u64 (IntKind.wrap .u64 (((x / 18446744073709551616:Nat):Int)-b%18446744073709551616)-a%18446744073709551616))=P / 18446744073709551616/\((x%18446744073709551616:Nat):Int)=P%18446744073709551616:=by
 rw [IntKind.wrap_i64,IntKind.wrap_u64,IntKind.wrap_u64];omega
section
variable {a b:Int} {u w:Nat}
end
theorem agh (x:Nat) (h:x < 18446744073709551616):SJ .u64 (x:Int)=((18446744073709551615-x:Nat):Int):=by
 unfold SJ;have h1:BitVec.ofInt 64 (if IntKind.signed .u64 then -1 else IntKind.max .u64)=BitVec.allOnes 64:=by decide
 show IntKind.wrap .u64 (((BitVec.ofInt 64 (if IntKind.signed .u64 then -1 else IntKind.max .u64) ^^^ BitVec.ofInt 64 (x:Int)).toNat:Nat):Int)=_
 rw [h1,BitVec.allOnes_xor,BitVec.toNat_not,BitVec.toNat_ofInt,IntKind.wrap_u64];omega
def Sv (P n:Int):Int:=if n<=0 then 0 else if bS (P / n) then P / n else 0
def WJ (P n:Int):Int:=if n<=0 then 2 else if bS (P / n) then 0 else 1
theorem p7 (x:Int):right [x]=bS x:=by simp [right]
def av.P (x:av) (u:Int):Int:=u*(10000-x.d)*x.c
def av.fit (x:av) (u:Int):Bool:=x.ok&&decide (0<=u)&&decide (u<=1099511627776)
def av.V (x:av) (u:Int):Int:=if x.fit u then Sv (x.P u) 10000 else 0
def av.E (x:av) (u:Int):Int:=if x.fit u then WJ (x.P u) 10000 else 3
theorem av.VC (x:av):x.ok=true ↔ (1<=x.a/\x.a<=6)/\(0<=x.b/\x.b<=2)/\(1<=x.c/\x.c<=1073741824)/\(0<=x.d/\x.d<=10000):=by
 simp [av.ok,within,and_assoc]
theorem Hh (w a n:Int):∀ ps:List eW,(FR w a n ps).length<=ps.length+1
 | []=>by simp only [FR];split<;>simp
 | p :: r=>by
  have:=Hh w a n r;simp only [FR];split
  ·simp;exact this
  ·split<;>split<;>simp<;>omega
theorem OK {ps:List eW} {w a u:Int} (h:dS ps w a u=0):Good ps/\fc w a=true /\ -1099511627776<=u/\u<=1099511627776/\0<=bU w a ps+u/\bU w a ps+u<=1099511627776:=by
 unfold dS at h;split at h
 ·cases h
 ·rename_i h1;have hg:=gM.1 (by simpa using h1);split at h
  ·cases h
  ·rename_i h2;simp only [Bool.not_eq_false,cg,decide_eq_true_eq] at h2;split at h
   ·cases h
   ·split at h
    ·cases h
    ·refine ⟨hg,h2.1.1,h2.1.2,h2.2,by omega,by omega⟩
theorem bk (a b c:Int):Abs.Spec Tryz.prog 166 [] [.int .i64 a,.int .i64 b,.int .i64 c] [] (.bool (within a b c)):=by
 refine aU 15 3 [.tmp 6] mixed Tryz.func166 ?_;simp only [go_sem,seval]
 repeat' with_reducible first|apply And.intro|exact .dq|refine aa.pure (by assumption) ?_|refine .aH (fun h=>?_) fun h=>?_|refine .aF (fun h=>?_) fun h=>?_|refine .aK (fun h=>?_) fun h=>?_|refine .split (fun h=>?_) fun h=>?_|refine .id ?_|refine ah.next (by omega) ?_ ?_|exact trivial|simp only [*,go_sem,seval]
 all_goals (simp only [within];simp<;>omega)
theorem eP (a b c:Int):Abs.Spec Tryz.prog 221 [] [.int .i64 a,.int .i64 b,.int .i64 c] [] (.bool (within a b c)):=by
 refine aU 15 3 [.tmp 6] mixed Tryz.func221 ?_;simp only [go_sem,seval]
 repeat' with_reducible first|apply And.intro|exact .dq|refine aa.pure (by assumption) ?_|refine .aH (fun h=>?_) fun h=>?_|refine .aF (fun h=>?_) fun h=>?_|refine .aK (fun h=>?_) fun h=>?_|refine .split (fun h=>?_) fun h=>?_|refine .id ?_|refine ah.next (by omega) ?_ ?_|exact trivial|simp only [*,go_sem,seval]
 all_goals (simp only [within];simp<;>omega)
theorem fH (c:Int):Abs.Spec Tryz.prog 76 [] [.int .i64 c] [] (.bool (within c 0 2)):=by
 have h:=bk c 0 2;refine aU 5 1 [.tmp 2] mixed Tryz.func76 ?_;simp only [go_sem,seval]
 repeat' with_reducible first|apply And.intro|exact .dq|refine aa.pure (by assumption) ?_|refine .aH (fun h=>?_) fun h=>?_|refine .aF (fun h=>?_) fun h=>?_|refine .aK (fun h=>?_) fun h=>?_|refine .split (fun h=>?_) fun h=>?_|refine .id ?_|refine ah.next (by omega) ?_ ?_|exact trivial|simp only [*,go_sem,seval]
theorem fD (c:Int):Abs.Spec Tryz.prog 194 [] [.int .i64 c] [] (.bool (within c 1 16)):=by
 have h:=bk c 1 16;refine aU 5 1 [.tmp 2] mixed Tryz.func194 ?_;simp only [go_sem,seval]
 repeat' with_reducible first|apply And.intro|exact .dq|refine aa.pure (by assumption) ?_|refine .aH (fun h=>?_) fun h=>?_|refine .aF (fun h=>?_) fun h=>?_|refine .aK (fun h=>?_) fun h=>?_|refine .split (fun h=>?_) fun h=>?_|refine .id ?_|refine ah.next (by omega) ?_ ?_|exact trivial|simp only [*,go_sem,seval]
theorem rR (c:Int):Abs.Spec Tryz.prog 220 [] [.int .i64 c] [] (.bool (within c 1 6)):=by
 have h:=eP c 1 6;refine aU 5 1 [.tmp 2] mixed Tryz.func220 ?_;simp only [go_sem,seval]
 repeat' with_reducible first|apply And.intro|exact .dq|refine aa.pure (by assumption) ?_|refine .aH (fun h=>?_) fun h=>?_|refine .aF (fun h=>?_) fun h=>?_|refine .aK (fun h=>?_) fun h=>?_|refine .split (fun h=>?_) fun h=>?_|refine .id ?_|refine ah.next (by omega) ?_ ?_|exact trivial|simp only [*,go_sem,seval]
theorem oY (x:av):Abs.Spec Tryz.prog 160 [] [.agg x.cells] [] (.bool x.ok):=by
 have h1:=bk x.a 1 6;have h2:=fH x.b;have h3:=bk x.c 1 1073741824;have h4:=bk x.d 0 10000;refine aU 21 1 [.tmp 2] mixed Tryz.func160 ?_;simp only [go_sem,seval,av.cells]
 repeat' with_reducible first|apply And.intro|exact .dq|refine aa.pure (by assumption) ?_|refine .aH (fun h=>?_) fun h=>?_|refine .aF (fun h=>?_) fun h=>?_|refine .aK (fun h=>?_) fun h=>?_|refine .split (fun h=>?_) fun h=>?_|refine .id ?_|refine ah.next (by omega) ?_ ?_|exact trivial|simp only [*,go_sem,seval]
 all_goals (simp only [av.ok];simp_all)
theorem JH (a:Nat) (h:a < 9223372036854775808):Abs.Spec Tryz.prog 264 [] [.int .i64 a] [] (.int .u64 a):=by
 have hd:decide ((a:Int) < 0)=false:=by simp
 have hw:IntKind.wrap .u64 (a:Int)=a:=by rw [IntKind.wrap_u64];omega
 refine aU 10 1 [.tmp 2] mixed Tryz.func264 ?_;simp only [go_sem,seval,hd,hw]
theorem DY (a b:Nat) (ha:a < 9223372036854775808) (hb:b < 9223372036854775808):Abs.Spec Tryz.prog 224 [] [.int .i64 a,.int .i64 b] [] (.agg [.int .i64 ((a*b / 18446744073709551616:Nat):Int),.int .u64 ((a*b%18446744073709551616:Nat):Int)]):=by
 have h1:=JH a ha;have h2:=JH b hb;have h3:=BI a b (by omega) (by omega)
 have hP:a*b / 18446744073709551616 < 9223372036854775808:=by
  have:a*b < 9223372036854775808*9223372036854775808:=Nat.mul_lt_mul'' ha hb;omega
 have hw:IntKind.wrap .i64 ((a*b / 18446744073709551616:Nat):Int)=((a*b / 18446744073709551616:Nat):Int):=by rw [IntKind.wrap_i64];omega
 have d1:decide ((a:Int) < 0)=false:=by simp
 have d2:decide ((b:Int) < 0)=false:=by simp
 refine aU 28 2 [.cell 4 214] mixed Tryz.func224 ?_;simp only [go_sem,seval];refine aa.pure h1 ?_;simp only [go_sem,seval];refine aa.pure h2 ?_;simp only [go_sem,seval];refine aa.pure h3 ?_;simp only [go_sem,seval,hw,d1,d2]
theorem JY (P N:Nat) (hN:0 < N/\N < 9223372036854775808) (hP:P < 170141183460469231731687303715884105728):Abs.Spec Tryz.prog 223 [] [.agg [.int .i64 ((P / 18446744073709551616:Nat):Int),.int .u64 ((P%18446744073709551616:Nat):Int)],.int .i64 N] []
  (.bD [.int .i64 (if P / N<=4611686018427387904 then (P / N:Nat) else (0:Int)),.int .i64 (if P / N<=4611686018427387904 then (P%N:Nat) else (0:Int)),.bool (decide (P / N<=4611686018427387904))]):=by
 obtain ⟨H,hH⟩:=aO (P / 18446744073709551616);obtain ⟨L,hL⟩:=aO (P%18446744073709551616);have hHL:H*18446744073709551616+L=P:=by omega
 have hLl:L < 18446744073709551616:=by omega
 have hHl:H < 9223372036854775808:=by omega
 rw [<- hH,<- hL];obtain ⟨Q,hQ⟩:=aO (P / N);obtain ⟨R,hR⟩:=aO (P%N);have hRN:R < N:=by rw [hR];exact Nat.mod_lt _ hN.1
 have hd:=Le H L N (by omega);rw [hHL,<- hQ,<- hR] at hd
 have hbig:N<=H->18446744073709551616<=Q:=fun h=>by
  rw [hQ,Nat.le_div_iff_mul_le hN.1];have:=Nat.mul_le_mul_right 18446744073709551616 h;rw [Nat.mul_comm] at this;omega
 rw [<- hQ,<- hR];have d1:decide ((N:Int) < 1)=false:=by simp;omega
 have d2:decide ((H:Int) < 0)=false:=by simp
 have w1:IntKind.wrap .u64 (H:Int)=H:=by rw [IntKind.wrap_u64];omega
 have w2:IntKind.wrap .u64 (N:Int)=N:=by rw [IntKind.wrap_u64];omega
 refine aU 79 2 [.tmp 4,.tmp 5,.tmp 6] mixed Tryz.func223 ?_;simp only [go_sem,seval,d1,d2,w1,w2];refine ⟨ji.mk (by kernel_rfl),DH.mk (by kernel_rfl),DH.mk (by kernel_rfl),?_⟩;refine bH.aF (fun h=>?_) (fun h=>?_)
 ·have h1:=hbig (by omega);have h2:¬ Q<=4611686018427387904:=by omega
  simp only [go_sem,seval,if_neg h2,decide_eq_false h2]
 ·have h1:H < N:=by omega
  simp only [go_sem,seval,w1,w2];refine aa.pure (hd h1 hLl) ?_;simp only [go_sem,seval];refine bH.aF (fun hq=>?_) (fun hq=>?_)
  ·have h2:¬ Q<=4611686018427387904:=by omega
   simp only [go_sem,seval,if_neg h2,decide_eq_false h2]
  ·have h2:Q<=4611686018427387904:=by omega
   have w3:IntKind.wrap .i64 (Q:Int)=Q:=bz (by omega) (by omega);have w4:IntKind.wrap .i64 (R:Int)=R:=bz (by omega) (by omega);simp only [go_sem,seval,if_pos h2,decide_eq_true h2,w3,w4]
theorem uL (x:av) (u:Int):Abs.Spec Tryz.prog 165 [] [.agg x.cells,.int .i64 u] [] (.bD [.int .i64 (x.V u),.int .i64 (x.E u)]):=by
 have h1:=oY x;have h2:=eP u 0 1099511627776;simp only [av.cells] at h1 |-;refine aU 33 2 [.tmp 4,.tmp 5] mixed Tryz.func165 ?_;simp only [go_sem,seval];refine aa.pure h1 ?_;cases hok:x.ok
 ·have e1:x.V u=0:=by simp [av.V,av.fit,hok]
  have e2:x.E u=3:=by simp [av.E,av.fit,hok]
  simp only [go_sem,seval,e1,e2]
 simp only [go_sem,seval];refine aa.pure h2 ?_;cases hin:within u 0 1099511627776
 ·have hf:x.fit u=false:=by simp [av.fit,hok];simp [within] at hin;omega
  have e1:x.V u=0:=by simp [av.V,hf]
  have e2:x.E u=3:=by simp [av.E,hf]
  simp only [go_sem,seval,e1,e2]
 have hf:x.fit u=true:=by simp [av.fit,hok];simp [within] at hin;omega
 have hr:=(av.VC x).1 hok;obtain ⟨U,rfl⟩:∃ U:Nat,u=U:=⟨u.toNat,by simp [within] at hin;omega⟩
 have hU:U<=1099511627776:=by simp [within] at hin;omega
 obtain ⟨C,hC⟩:∃ C:Nat,x.c=C:=⟨x.c.toNat,by omega⟩
 obtain ⟨M,hM⟩:∃ M:Nat,10000-x.d=M:=⟨(10000-x.d).toNat,by omega⟩
 have hC1:C<=1073741824:=by omega
 have hM1:M<=10000:=by omega
 have hCM:C*M<=1073741824*10000:=Nat.mul_le_mul hC1 hM1;have hP:U*(C*M)<=1099511627776*(1073741824*10000):=Nat.mul_le_mul hU hCM;have w1:IntKind.wrap .i64 (10000-x.d)=M:=by rw [bz (by omega) (by omega)];omega
 have w2:IntKind.wrap .i64 (x.c*(M:Int))=((C*M:Nat):Int):=by
  rw [hC,<- Int.natCast_mul,bz (by omega) (by omega)]
 have hT:=DY U (C*M) (by omega) (by omega);have hQ:=JY (U*(C*M)) 10000 (by omega) (by omega)
 have ePP:x.P U=((U*(C*M):Nat):Int):=by
  simp only [av.P,hM,hC];rw [Int.natCast_mul,Int.natCast_mul,Int.mul_assoc,Int.mul_comm (M:Int)]
 simp only [go_sem,seval,w1,w2];refine aa.pure hT ?_;simp only [go_sem,seval];refine aa.pure hQ ?_
 by_cases hq:U*(C*M) / 10000<=4611686018427387904
 ·have hR:bS (x.P U / 10000)=true:=by rw [ePP];simp only [bS,cg,decide_eq_true_eq];omega
  have e1:x.V U=((U*(C*M) / 10000:Nat):Int):=by
   simp only [av.V,hf,if_true,Sv,hR];rw [ePP];rfl
  have e2:x.E U=0:=by simp [av.E,hf,WJ,hR]
  simp only [go_sem,seval,if_pos hq,decide_eq_true hq,e1,e2]
 ·have hR:bS (x.P U / 10000)=false:=by rw [ePP];simp only [bS,Bool.and_eq_false_iff,decide_eq_false_iff_not];omega
  have e1:x.V U=0:=by simp [av.V,hf,Sv,hR]
  have e2:x.E U=1:=by simp [av.E,hf,WJ,hR]
  simp only [go_sem,seval,if_neg hq,decide_eq_false hq,e1,e2]
def kW (f:Int->Int->Int) (w:Int):Nat->List eW
 | 0=>[]
 | n+1=>kW f w n++if 0 < f w (n+1) then [⟨w,n+1,f w (n+1)⟩] else []
def enum (f:Int->Int->Int):Nat->List eW
 | 0=>[]
 | n+1=>enum f n++kW f (n+1) 6
theorem tS {f:Int->Int->Int} {w:Int} {p:eW}:∀ {n:Nat},p∈kW f w n ↔ p.who=w/\1<=p.bF/\p.bF<=n/\p.units=f w p.bF/\0 < p.units
 | 0=>by simp [kW];omega
 | n+1=>by
  simp only [kW,List.mem_append,tS (n:=n)];constructor
  ·rintro (⟨h1,h2,h3,h4,h5⟩ | h)
   ·exact ⟨h1,h2,by omega,h4,h5⟩
   ·split at h
    ·rename_i hf;simp only [List.mem_cons,List.not_mem_nil,or_false] at h;subst h;exact ⟨rfl,by show (1:Int)<=n+1;omega,by show (n:Int)+1<=_;omega,rfl,hf⟩
    ·cases h
  ·rintro ⟨h1,h2,h3,h4,h5⟩
   by_cases h:p.bF=n+1
   ·right
    rw [h] at h4;rw [if_pos (by omega)];cases p
    simp_all
   ·left;exact ⟨h1,h2,by omega,h4,h5⟩
theorem AR {f:Int->Int->Int} {p:eW}:∀ {n:Nat},p∈enum f n ↔ 1<=p.who/\p.who<=n/\1<=p.bF/\p.bF<=6/\p.units=f p.who p.bF/\0 < p.units
 | 0=>by simp [enum];omega
 | n+1=>by
  simp only [enum,List.mem_append,AR (n:=n),tS];constructor
  ·rintro (⟨h1,h2,h3⟩ | ⟨h1,h2,h3,h4,h5⟩)
   ·exact ⟨h1,by omega,h3⟩
   ·rw [<- h1] at h4;exact ⟨by omega,by omega,h2,h3,h4,h5⟩
  ·rintro ⟨h1,h2,h3,h4,h5,h6⟩
   by_cases h:p.who=n+1
   ·right;rw [h] at h5;exact ⟨h,h3,h4,h5,h6⟩
   ·left;exact ⟨h1,by omega,h3,h4,h5,h6⟩
theorem wY (f:Int->Int->Int) (w:Int):∀ n:Nat,(kW f w n).Pairwise (fun p q=>p.key < q.key)
 | 0=>by simp [kW]
 | n+1=>by
  simp only [kW,List.pairwise_append];refine ⟨wY f w n,by split<;>simp,?_⟩;intro p hp q hq;have h:=tS.1 hp;split at hq
  ·simp only [List.mem_cons,List.not_mem_nil,or_false] at hq;subst hq;simp only [eW.key];omega
  ·cases hq
theorem zD (f:Int->Int->Int):∀ n:Nat,(enum f n).Pairwise (fun p q=>p.key < q.key)
 | 0=>by simp [enum]
 | n+1=>by
  simp only [enum,List.pairwise_append];refine ⟨zD f n,wY f _ 6,?_⟩;intro p hp q hq;have h:=AR.1 hp;have h2:=tS.1 hq;simp only [eW.key];omega
theorem Bu:∀ {l m:List eW},l.Pairwise (fun p q=>p.key < q.key)->m.Pairwise (fun p q=>p.key < q.key)->(∀ p,p∈l ↔ p∈m)->l=m
 | [],[],_,_,_=>rfl
 | [],q :: m,_,_,h=>by have:=(h q).2 (by simp);cases this
 | p :: l,[],_,_,h=>by have:=(h p).1 (by simp);cases this
 | p :: l,q :: m,hl,hm,h=>by
  rw [List.pairwise_cons] at hl hm
  have hpq:p=q:=by
   rcases List.mem_cons.1 ((h p).1 (by simp)) with e | e
   ·exact e
   ·rcases List.mem_cons.1 ((h q).2 (by simp)) with e2 | e2
    ·exact e2.symm
    ·have a:=hm.1 p e;have b:=hl.1 q e2;omega
  subst hpq;rw [Bu hl.2 hm.2];intro r;constructor
  ·intro hr;rcases List.mem_cons.1 ((h r).1 (by simp [hr])) with e | e
   ·subst e;have:=hl.1 r hr;omega
   ·exact e
  ·intro hr;rcases List.mem_cons.1 ((h r).2 (by simp [hr])) with e | e
   ·subst e;have:=hm.1 r hr;omega
   ·exact e
theorem NW {ps:List eW} (hg:Good ps) {p:eW} (hp:p∈ps):bU p.who p.bF ps=p.units:=by
 induction ps with
 | nil=>cases hp
 | cons q r ih =>
  have hgr:Good r:=⟨fun x hx=>hg.1 x (by simp [hx]),(List.pairwise_cons.1 hg.2).2⟩
  simp only [bU];rcases List.mem_cons.1 hp with e | e
  ·subst e;simp
  ·have hlt:=(List.pairwise_cons.1 hg.2).1 p e
   have hne:¬ (q.who=p.who/\q.bF=p.bF):=fun hh=>by
    simp only [eW.key] at hlt;omega
   rw [if_neg hne,ih hgr e]
theorem CC {w a:Int}:∀ {ps:List eW},0 < bU w a ps->(⟨w,a,bU w a ps⟩:eW)∈ps
 | [],h=>by simp [bU] at h
 | q :: r,h=>by
  simp only [bU] at h |-;split
  ·rename_i hh;have:(⟨w,a,q.units⟩:eW)=q:=by cases q;simp_all
   rw [this];simp
  ·rename_i hh;rw [if_neg hh] at h;exact List.mem_cons_of_mem _ (CC h)
theorem Lf {ps:List eW} (hg:Good ps):enum (fun w a=>bU w a ps) 16=ps:=by
 refine Bu (zD _ 16) hg.2 ?_;intro p;rw [AR];constructor
 ·rintro ⟨h1,h2,h3,h4,h5,h6⟩
  have:=CC (w:=p.who) (a:=p.bF) (ps:=ps) (by rw [<- h5];exact h6);rw [<- h5] at this;exact this
 ·intro hp;have hr:=(hg.1 p hp)
  have hr1:=lR.1 hr.1;exact ⟨hr1.1,hr1.2.1,hr1.2.2.1,hr1.2.2.2,(NW hg hp).symm,by have:=hr.2;omega⟩
def qa (ps:List eW) (w a n:Int) (w' a':Int):Int:=if w'=w/\a'=a then n else bU w' a' ps
theorem Pb {ps:List eW} {w a n:Int} (hg:Good ps) (hr:fc w a=true) (h0:0<=n) (hn:n<=1099511627776):enum (qa ps w a n) 16=FR w a n ps:=by
 have:qa ps w a n=fun w' a'=>bU w' a' (FR w a n ps):=by
  funext w' a'
  unfold qa;split
  ·rename_i h;rw [h.1,h.2,FH hr h0 hg]
  ·rename_i h;rw [zy h hr hg]
 rw [this,Lf (IM hr hn hg)]
theorem uN (w a:Int) (ps:List eW) (hl:ps.length < 2 ^ 62):Abs.Spec Tryz.prog 222 [] [.int .i64 w,.int .i64 a,.sl 3 (pl ps)] [] (.int .i64 (bU w a ps)):=by
 refine aU 35 3 [.tmp 6] mixed Tryz.func222 ?_;simp only [go_sem,seval];refine aB.count ps.length [0,1,2] [] (fun i=>[(7,.int .i64 i)]) (fun i=>[]) (fun i=>bU w a (ps.drop i)=bU w a ps) (by simp) ?_ ?_
 ·simp only [go_sem,seval]<;>simp
 ·intro i hi hI;simp only [go_sem,seval];refine bH.aF (fun h=>?_) (fun h=>?_)
  ·have hi':i < ps.length:=by omega
   have hw:IntKind.wrap .i64 ((i:Int)+1)=((i+1:Nat):Int):=by rw [bz (by omega) (by omega)];omega
   rw [MI hi'] at hI;simp only [bU] at hI;simp only [go_sem,seval,jX ps hi']
   repeat' with_reducible first|apply And.intro|exact .dq|refine aa.pure (by assumption) ?_|refine .aH (fun h=>?_) fun h=>?_|refine .aF (fun h=>?_) fun h=>?_|refine .aK (fun h=>?_) fun h=>?_|refine .split (fun h=>?_) fun h=>?_|refine .id ?_|refine ah.next (by omega) ?_ ?_|exact trivial|simp only [*,go_sem,seval,jX ps hi']
   all_goals (simp_all;done)
  ·obtain rfl:i=ps.length:=by omega
   simp only [List.drop_length,bU] at hI
   repeat' with_reducible first|apply And.intro|exact .dq|refine aa.pure (by assumption) ?_|refine .aH (fun h=>?_) fun h=>?_|refine .aF (fun h=>?_) fun h=>?_|refine .aK (fun h=>?_) fun h=>?_|refine .split (fun h=>?_) fun h=>?_|refine .id ?_|refine ah.next (by omega) ?_ ?_|exact trivial|simp only [*,go_sem,seval]
theorem q9 (w a:Int):fc w a=(within w 1 16&&within a 1 6):=by simp [fc,within,Bool.and_assoc]
def B7 (q p:eW):Bool:=decide (q.who > p.who)||(q.who==p.who&&decide (q.bF >= p.bF))
theorem Ti {q p:eW} (hq:fc q.who q.bF=true) (hp:fc p.who p.bF=true):B7 q p = !decide (HN q p.who p.bF < 0):=by
 rw [Bf hq hp,Bool.eq_iff_iff];simp only [B7,Bool.or_eq_true,cg,decide_eq_true_eq,beq_iff_eq,Bool.not_eq_true',decide_eq_false_iff_not];split<;>omega
theorem mH (ps:List eW) (hl:ps.length < 2 ^ 62):Abs.Spec Tryz.prog 219 [] [.sl 3 (pl ps)] [] (.bool (gj ps)):=by
 refine aU 66 1 [.tmp 2] mixed Tryz.func219 ?_;simp only [go_sem,seval];refine aB.count ps.length [0] [] (fun i=>[(3,.int .i64 i)]) (fun i=>[]) (fun i=>∀ j < i,nU ps j=true) (by simp) ?_ ?_
 ·simp only [go_sem,seval]<;>simp
 ·intro i hi hI;simp only [go_sem,seval];refine bH.aF (fun h=>?_) (fun h=>?_)
  ·have hi':i < ps.length:=by omega
   have hw:IntKind.wrap .i64 ((i:Int)+1)=((i+1:Nat):Int):=by rw [bz (by omega) (by omega)];omega
   have h1:=fD ps[i].who;have h2:=rR ps[i].bF;have h3:=eP ps[i].units 1 1099511627776;have hk:=Hx hi';have hwu:within ps[i].units 1 1099511627776=(decide (1<=ps[i].units)&&decide (ps[i].units<=1099511627776)):=rfl;rw [q9,Bool.and_assoc _ (decide (1<=ps[i].units)),<- hwu] at hk;clear hwu
   have e0:nU ps i=true->∀ k < i+1,nU ps k=true:=fun h0 k hk=>by
    rcases Nat.lt_or_ge k i with h | h
    ·exact hI k h
    ·obtain rfl:k=i:=by omega
     exact h0
   have e1:nU ps i=false->gj ps=false:=Fo hi';rcases Nat.eq_zero_or_pos i with rfl | hpos
   ·simp only [go_sem,seval,jX ps hi']
    repeat' with_reducible first|apply And.intro|exact .dq|refine aa.pure (by assumption) ?_|refine aa.pure (h1) ?_|refine aa.pure (h2) ?_|refine aa.pure (h3) ?_|refine .aH (fun h=>?_) fun h=>?_|refine .aF (fun h=>?_) fun h=>?_|refine .aK (fun h=>?_) fun h=>?_|refine .split (fun h=>?_) fun h=>?_|refine .id ?_|refine ah.next (by omega) ?_ ?_|exact trivial|simp only [*,go_sem,seval]
    all_goals first
     | omega
     | rfl
     | (refine e0 ?_;rw [hk];simp_all;done)
     | (refine e0 ?_;rw [hk];simp_all [B7];omega)
     | (rw [e1 ?_]
        cases hh:nU ps 0
        ·rfl
        ·exfalso;rw [hk] at hh;simp_all [B7])
     | (rw [e1 ?_]
        cases hh:nU ps 0
        ·rfl
        ·exfalso;rw [hk] at hh;simp_all [B7];omega)
   ·obtain ⟨j,rfl⟩:∃ j,i=j+1:=⟨i-1,by omega⟩
    have hj:j < ps.length:=by omega
    have hw1:IntKind.wrap .i64 (((j+1:Nat):Int)-1)=(j:Int):=by rw [bz (by omega) (by omega)];omega
    have ej:ps.getD (j+1-1) ⟨0,0,0⟩=ps[j]:=by simp [hj]
    rw [ej] at hk;have hjo:=hI j (by omega)
    have hjr:fc ps[j].who ps[j].bF=true:=by
     rw [Hx hj] at hjo;simp only [cg] at hjo;exact hjo.1.1.1
    replace hk:nU ps (j+1)=(within ps[j+1].who 1 16&&within ps[j+1].bF 1 6&&within ps[j+1].units 1 1099511627776&&!B7 ps[j] ps[j+1]):=by
     rw [hk];cases hwa:within ps[j+1].who 1 16&&within ps[j+1].bF 1 6
     ·simp
     ·rw [<- q9] at hwa;rw [Ti hjr hwa];simp
    simp only [go_sem,seval,jX ps hi']
    repeat' with_reducible first|apply And.intro|exact .dq|refine aa.pure (by assumption) ?_|refine aa.pure (h1) ?_|refine aa.pure (h2) ?_|refine aa.pure (h3) ?_|refine .aH (fun h=>?_) fun h=>?_|refine .aF (fun h=>?_) fun h=>?_|refine .aK (fun h=>?_) fun h=>?_|refine .split (fun h=>?_) fun h=>?_|refine .id ?_|refine ah.next (by omega) ?_ ?_|exact trivial|simp only [*,go_sem,seval,jX ps hj]
    all_goals first
     | omega
     | rfl
     | (refine e0 ?_
        have ho:B7 ps[j] ps[j+1]=false:=by
         simp only [beq_iff_eq,beq_eq_false_iff_ne] at *;simp only [B7,Bool.or_eq_false_iff,Bool.and_eq_false_iff,decide_eq_false_iff_not,beq_eq_false_iff_ne];omega
        rw [hk,ho]
        simp only [*,Bool.and_self,Bool.not_false])
     | (refine e0 ?_;rw [hk];simp_all;done)
     | (refine e0 ?_;rw [hk];simp_all [B7];omega)
     | (rw [e1 ?_]
        cases hh:nU ps (j+1)
        ·rfl
        ·exfalso;rw [hk] at hh;simp_all [B7])
     | (rw [e1 ?_]
        cases hh:nU ps (j+1)
        ·rfl
        ·exfalso;rw [hk] at hh;simp_all [B7];omega)
  ·obtain rfl:i=ps.length:=by omega
   have hc:=AZ hI
   repeat' with_reducible first|apply And.intro|exact .dq|refine aa.pure (by assumption) ?_|refine .aH (fun h=>?_) fun h=>?_|refine .aF (fun h=>?_) fun h=>?_|refine .aK (fun h=>?_) fun h=>?_|refine .split (fun h=>?_) fun h=>?_|refine .id ?_|refine ah.next (by omega) ?_ ?_|exact trivial|simp only [*,go_sem,seval]
theorem ym (f:Int->Int->Int) (w:Int):∀ n:Nat,(kW f w n).length<=n
 | 0=>by simp [kW]
 | n+1=>by have:=ym f w n;simp only [kW,List.length_append];split<;>simp<;>omega
theorem I8 (f:Int->Int->Int):∀ n:Nat,(enum f n).length<=6*n
 | 0=>by simp [enum]
 | n+1=>by have:=I8 f n;have:=ym f (n+1) 6;simp only [enum,List.length_append];omega
theorem BH (ps:List eW) (w a u:Int) (hl:ps.length < 2 ^ 29) :
  Abs.Spec Tryz.prog 164 [] [.sl 3 (pl ps),.int .i64 w,.int .i64 a,.int .i64 u] [.own 3 (pl (cQ ps w a u))] (.bD [.ref 0,.int .i64 (dS ps w a u)]):=by
 have hc:=mH ps (by omega);have hr1:=fD w;have hr2:=rR a;have hr3:=eP u (-1099511627776) 1099511627776;have hu:=uN w a ps (by omega);have hrw:=q9 w a;refine aU 72 4 [.tmp 8,.tmp 9] mixed Tryz.func164 ?_;simp only [go_sem,seval];refine aa.pure hc ?_;cases hk:gj ps
 ·have e1:dS ps w a u=14:=by simp [dS,hk]
  have e2:cQ ps w a u=[]:=by simp [cQ,e1]
  simp only [hk,go_sem,seval,e1,e2];rfl
 have hg:=gM.1 hk;have hur:=wK (w:=w) (a:=a) hg.1;simp only [hk,go_sem,seval];refine aa.pure hr1 ?_;cases hb1:within w 1 16
 ·have e1:dS ps w a u=3:=by simp [dS,hk,hrw,hb1]
  have e2:cQ ps w a u=[]:=by simp [cQ,e1]
  simp only [go_sem,seval,e1,e2];rfl
 simp only [go_sem,seval];refine aa.pure hr2 ?_;cases hb2:within a 1 6
 ·have e1:dS ps w a u=3:=by simp [dS,hk,hrw,hb2]
  have e2:cQ ps w a u=[]:=by simp [cQ,e1]
  simp only [go_sem,seval,e1,e2];rfl
 have hrb:fc w a=true:=by rw [hrw,hb1,hb2];rfl
 simp only [go_sem,seval];refine aa.pure hr3 ?_;cases hb3:within u (-1099511627776) 1099511627776
 ·have e1:dS ps w a u=3:=by
   have:(decide (-1099511627776<=u)&&decide (u<=1099511627776))=false:=hb3;simp only [dS,hk,hrb,Bool.true_and,this];rfl
  have e2:cQ ps w a u=[]:=by simp [cQ,e1]
  simp only [go_sem,seval,e1,e2];rfl
 have hub:-1099511627776<=u/\u<=1099511627776:=by simpa [within] using hb3
 simp only [go_sem,seval];refine aa.pure hu ?_;obtain ⟨n,hn⟩:=aO (bU w a ps+u);have hw:IntKind.wrap .i64 (bU w a ps+u)=n:=by rw [bz (by omega) (by omega),hn]
 rcases Int.lt_or_le n 0 with h3 | h3
 ·have e1:dS ps w a u=13:=by simp [dS,hk,hrb];omega
  have e2:cQ ps w a u=[]:=by simp [cQ,e1]
  have d3:decide (n < 0)=true:=by simpa using h3
  simp only [go_sem,seval,hw,e1,e2,d3];rfl
 have d3:decide (n < 0)=false:=by simpa using h3
 rcases Int.lt_or_le 1099511627776 n with h4 | h4
 ·have e1:dS ps w a u=1:=by simp [dS,hk,hrb];omega
  have e2:cQ ps w a u=[]:=by simp [cQ,e1]
  have d4:decide (1099511627776 < n)=true:=by simpa using h4
  simp only [go_sem,seval,hw,e1,e2,d3,d4];rfl
 have d4:decide (1099511627776 < n)=false:=by simpa using h4
 have e1:dS ps w a u=0:=by simp [dS,hk,hrb];omega
 have e2:cQ ps w a u=FR w a n ps:=by simp [cQ,e1,hn]
 simp only [go_sem,seval,hw,d3,d4,e1,e2];rw [<- Pb hg hrb h3 h4];clear hn hw e1 e2 hu;refine aB.count 16 [0,1,2,10] [560] (fun j=>[(12,.int .i64 ((j:Int)+1)),(11,.ref 1136)]) (fun j=>[(1136,.own 3 (pl (enum (qa ps w a n) j)))]) (fun _=>True) trivial ?_ ?_
 ·simp only [go_sem,seval]<;>simp [enum,pl]
 ·intro j hj _;simp only [go_sem,seval];refine bH.aF (fun h=>?_) (fun h=>?_)
  ·have hj':j < 16:=by omega
   have hwj:IntKind.wrap .i64 ((j:Int)+1+1)=((j+1:Nat):Int)+1:=by rw [bz (by omega) (by omega)];omega
   simp only [go_sem,seval];refine aB.count 6 [0,1,2,10,12] [560] (fun i=>[(13,.int .i64 ((i:Int)+1)),(11,.ref 1136)]) (fun i=>[(1136,.own 3 (pl (enum (qa ps w a n) j++kW (qa ps w a n) (j+1) i)))]) (fun _=>True) trivial ?_ ?_
   ·simp only [go_sem,seval]<;>simp [kW]
   ·intro i hi _;have hwi:IntKind.wrap .i64 ((i:Int)+1+1)=((i+1:Nat):Int)+1:=by rw [bz (by omega) (by omega)];omega
    have hu:=uN (j+1) (i+1) ps (by omega);simp only [go_sem,seval];refine bH.aF (fun h=>?_) (fun h=>?_)
    ·have hi':i < 6:=by omega
     have hstep:pl (enum (qa ps w a n) j++kW (qa ps w a n) (j+1) (i+1))=pl (enum (qa ps w a n) j++kW (qa ps w a n) (j+1) i)++if 0 < qa ps w a n (j+1) (i+1) then [[.int .i64 (j+1),.int .i64 (i+1),.int .i64 (qa ps w a n (j+1) (i+1))]] else []:=by
      simp only [kW];split<;>simp [pl,eW.cells]
     have hlen:(enum (qa ps w a n) j++kW (qa ps w a n) (j+1) i).length<=102:=by
      have:=I8 (qa ps w a n) j;have:=ym (qa ps w a n) (j+1) i;simp only [List.length_append];omega
     simp only [go_sem,seval];refine aa.pure hu ?_
     repeat' with_reducible first|apply And.intro|exact .dq|refine aa.pure (by assumption) ?_|refine .aH (fun h=>?_) fun h=>?_|refine .aF (fun h=>?_) fun h=>?_|refine .aK (fun h=>?_) fun h=>?_|refine .split (fun h=>?_) fun h=>?_|refine .id ?_|refine ah.next (by omega) ?_ ?_|exact trivial|simp only [*,go_sem,seval]
     all_goals first
      | omega
      | (clear hstep hlen
         simp only [beq_iff_eq,beq_eq_false_iff_ne] at *;simp only [qa]
         (repeat' split)<;>first
          | rfl
          | omega
          | (simp;done)
          | (exfalso;omega))
    ·obtain rfl:i=6:=by omega
     have e3:enum (qa ps w a n) (j+1)=enum (qa ps w a n) j++kW (qa ps w a n) (j+1) 6:=rfl
     repeat' with_reducible first|apply And.intro|exact .dq|refine aa.pure (by assumption) ?_|refine .aH (fun h=>?_) fun h=>?_|refine .aF (fun h=>?_) fun h=>?_|refine .aK (fun h=>?_) fun h=>?_|refine .split (fun h=>?_) fun h=>?_|refine .id ?_|refine ah.next (by omega) ?_ ?_|exact trivial|simp only [*,go_sem,seval]
  ·obtain rfl:j=16:=by omega
   simp only [go_sem,seval]
end Go.Proofs.YtacacccbcndjoaaGreat
