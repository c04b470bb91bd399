/- Pledges, as a list in order: what a change makes of it, and what follows. No theorem of a claim. -/
import Derived.Test.YtccipdjjkcejgaaGreatTY
import Derived.Test.YtccipdjjkcejgaaGreatAB
import Derived.Test.YtccipdjjkcejgaaGreatAC
import Derived.Shelf.Bits.Mul64
set_option linter.unusedSimpArgs false
set_option linter.unusedVariables false
set_option maxHeartbeats 4000000
set_option maxRecDepth 16000
namespace Go.Proofs.YtccipdjjkcejgaaGreat
open Go.Abs Tryz
open List hiding min
structure fG where
 who:Int
 fq:Int
 units:Int
 deriving DecidableEq
theorem gA {x:Int} (c:-9223372036854775808<=x) (e:x < 9223372036854775808):IntKind.i64.wrap x=x:=yW c e
def fG.key (p:fG):Int:=p.who*8+p.fq
def j6 (w a:Int):Bool:=decide (1<=w)&&decide (w<=16)&&decide (1<=a)&&decide (a<=6)
def fG.ok (p:fG):Prop:=j6 p.who p.fq=true/\1<=p.units/\p.units<=1099511627776
theorem rZ {w a:Int}:j6 w a=true ↔ 1<=w/\w<=16/\1<=a/\a<=6:=by
 simp only [j6,cU,bL];omega
def Ms (p:fG) (w a:Int):Int:=if p.who≠w then IntKind.wrap .i64 (p.who-w) else IntKind.wrap .i64 (p.fq-a)
theorem JN {p:fG} {w a:Int} (c:j6 p.who p.fq=true) (h:j6 w a=true):Ms p w a=if p.who≠w then p.who-w else p.fq-a:=by
 rw [rZ] at c h;unfold Ms;rw [gA ah ah,gA ah ah]
theorem IT {p:fG} {w a:Int} (c:j6 p.who p.fq=true) (h:j6 w a=true):Ms p w a < 0 ↔ p.key < w*8+a:=by
 rw [JN c h];rw [rZ] at c h;unfold fG.key;split<;>omega
theorem aer {p:fG} {w a:Int} (c:j6 p.who p.fq=true) (h:j6 w a=true):Ms p w a=0 ↔ p.key=w*8+a:=by
 rw [JN c h];rw [rZ] at c h;unfold fG.key;split<;>omega
def DP (ps:List fG) (i:Nat):Bool:=
 match ps[i]? with
 | none=>true
 | some p=>j6 p.who p.fq&&decide (1<=p.units)&&decide (p.units<=1099511627776)&&(match i with
  | 0=>true
  | j+1=>match ps[j]? with
   | some q=>decide (Ms q p.who p.fq < 0)
   | none=>true)
def mN (ps:List fG):Bool:=(range ps.length).all (DP ps)
def Good (ps:List fG):Prop:=(∀ p∈ps,p.ok)/\ps.Pairwise (fun p q=>p.key < q.key)
theorem jB {ps:List fG}:mN ps=true ↔ Good ps:=by
 have l:∀ i (h:i < ps.length),DP ps i=true ↔ ps[i].ok/\∀ j,(f:j+1=i)->Ms (ps[j]'ah) ps[i].who ps[i].fq < 0:=by
  intro i h;unfold DP;rw [fO h];cases i with
  | zero=>simp [fG.ok,and_assoc]
  | succ i =>
   simp only [fO (show i < ps.length by omega),cU,bL,fG.ok];constructor
   ·rintro ⟨⟨⟨c,m⟩,s⟩,h4⟩;exact ⟨⟨c,m,s⟩,fun j f=>(show j=i by omega) ▸ h4⟩
   ·rintro ⟨⟨c,m,s⟩,h4⟩;exact ⟨⟨⟨c,m⟩,s⟩,h4 i rfl⟩
 constructor
 ·intro v;have g:∀ i (h:i < ps.length),DP ps i=true:=by
   intro i h;exact dn.1 v i (mem_range.2 h)
  have o:∀ i (h:i < ps.length),ps[i].ok:=fun i h=>((l i h).1 (g i h)).1;refine ⟨?_,?_⟩
  ·intro p x;obtain ⟨i,k,rfl⟩:=mem_iff_getElem.1 x;exact o i k
  ·rw [qo];have key:∀ d i (f:i+d+1 < ps.length),ps[i].key < ps[i+d+1].key:=by
    intro d;induction d with
    | zero =>
     intro i f;have c:=((l (i+1) f).1 (g _ f)).2 i rfl;rw [IT (o i ah).1 (o (i+1) f).1] at c;exact c
    | succ d ih =>
     intro i f;have t:=ih i ah;have c:=((l (i+d+1+1) f).1 (g _ f)).2 (i+d+1) rfl;rw [IT (o (i+d+1) ah).1 (o (i+d+1+1) f).1] at c;exact Int.lt_trans t c
   intro i j k f hij;have:=key (j-i-1) i ah;have e:i+(j-i-1)+1=j:=ah
   simpa only [e] using this
 ·rintro ⟨c,m⟩;rw [qo] at m;refine dn.2 fun i k=>?_;have k:=mem_range.1 k;rw [l i k];refine ⟨c _ (ck k),?_⟩;intro j f;have n:j < ps.length:=ah
  rw [IT (c _ (ck n)).1 (c _ (ck k)).1];exact m j i n k ah
def pos (K:Int):List fG->Nat
 | []=>0
 | p :: r=>if p.key < K then pos K r+1 else 0
def Kj (K:Int):List fG->Bool
 | []=>false
 | p :: r=>if p.key < K then Kj K r else decide (p.key=K)
theorem Vu (K:Int):∀ ps:List fG,pos K ps<=ps.length
 | []=>by simp [pos]
 | p :: r=>by have:=Vu K r;simp only [pos];split<;>simp<;>omega
theorem acB {K:Int}:∀ {ps:List fG} {i:Nat} (h:i < pos K ps) (c:i < ps.length),ps[i].key < K
 | [],i,h,c=>by simp at c
 | p :: r,i,h,c=>by
  simp only [pos] at h;split at h
  ·cases i with
   | zero=>assumption
   | succ i=>exact acB (ps:=r) ah (by simpa using c)
  ·omega
theorem acA {K:Int}:∀ {ps:List fG} (e:ps.Pairwise (fun p q=>p.key < q.key)) {i:Nat} (h:pos K ps<=i) (c:i < ps.length),K<=ps[i].key
 | [],_,i,h,c=>by simp at c
 | p :: r,e,i,h,c=>by
  rw [iL] at e;simp only [pos] at h;split at h
  ·cases i with
   | zero=>omega
   | succ i=>exact acA (ps:=r) e.2 ah (by simpa using c)
  ·cases i with
   | zero=>rename_i g;simpa using g
   | succ i =>
    rename_i g;have f:i < r.length:=by simpa using c
    have:=e.1 r[i] (ck f);simp only [getElem_cons_succ];omega
theorem Vv {K:Int} {ps:List fG} (f:ps.Pairwise (fun p q=>p.key < q.key)) {m:Nat} (hm:m<=ps.length) (c:∀ i (g:i < ps.length),i < m->ps[i].key < K) (e:∀ i (g:i < ps.length),m<=i->K<=ps[i].key):m=pos K ps:=by
 have hp:=Vu K ps;rcases Nat.lt_trichotomy m (pos K ps) with h | h | h
 ·have a:=acB h ah;have b:=e m ah (dU _);omega
 ·exact h
 ·have a:=c (pos K ps) ah h;have b:=acA f (dU (pos K ps)) ah;omega
theorem P0 {K:Int}:∀ {ps:List fG},Kj K ps=match ps[pos K ps]? with | some p=>decide (p.key=K) | none=>false
 | []=>rfl
 | p :: r=>by
  simp only [Kj,pos];split
  ·rw [getElem?_cons_succ];exact P0
  ·rfl
def Ue (w a n:Int):List fG->List fG
 | []=>if n > 0 then [⟨w,a,n⟩] else []
 | p :: r=>if p.key < w*8+a then p :: Ue w a n r else if p.key=w*8+a then (if n > 0 then ⟨w,a,n⟩ :: r else r) else (if n > 0 then ⟨w,a,n⟩ :: p :: r else p :: r)
def jH (w a:Int):List fG->Int
 | []=>0
 | p :: r=>if p.who=w/\p.fq=a then p.units else jH w a r
theorem aa4 (w a n:Int):∀ ps:List fG,Ue w a n ps=ps.take (pos (w*8+a) ps)++(if n > 0 then [⟨w,a,n⟩] else [])++ps.drop (pos (w*8+a) ps+if Kj (w*8+a) ps then 1 else 0)
 | []=>by simp [Ue,pos,Kj]
 | p :: r=>by
  have f:=aa4 w a n r;simp only [Ue,pos,Kj];by_cases h:p.key < w*8+a
  ·simp only [aq h,f];simp only [take_succ_cons,cons_append];congr 2;have:pos (w*8+a) r+1+(if Kj (w*8+a) r=true then 1 else 0)=(pos (w*8+a) r+if Kj (w*8+a) r=true then 1 else 0)+1:=ah
   rw [this,drop_succ_cons]
  ·simp only [ak h];by_cases c:p.key=w*8+a
   ·simp only [aq c];by_cases e:n > 0<;>simp [c,e]
   ·simp only [ak c];by_cases e:n > 0<;>simp [c,e]
theorem IS {w a n:Int}:∀ {ps:List fG} {q:fG},q∈Ue w a n ps->q∈ps\/(q=⟨w,a,n⟩/\n > 0)
 | [],q,h=>by
  simp only [Ue] at h;split at h
  ·simp at h;exact .inr ⟨h,by assumption⟩
  ·simp at h
 | p :: r,q,h=>by
  simp only [Ue] at h;split at h
  ·rcases mem_cons.1 h with h | h
   ·exact .inl (by simp [h])
   ·rcases IS h with h | h
    ·exact .inl (by simp [h])
    ·exact .inr h
  ·split at h
   ·split at h
    ·rcases mem_cons.1 h with h | h
     ·exact .inr ⟨h,by assumption⟩
     ·exact .inl (by simp [h])
    ·exact .inl (by simp [h])
   ·split at h
    ·rcases mem_cons.1 h with h | h
     ·exact .inr ⟨h,by assumption⟩
     ·exact .inl h
    ·exact .inl h
theorem aa5 {w a n:Int} (hr:j6 w a=true) (j:n<=1099511627776) {ps:List fG} (g:Good ps):Good (Ue w a n ps):=by
 refine ⟨?_,?_⟩
 ·intro q e;rcases IS e with h | ⟨rfl,h⟩
  ·exact g.1 q h
  ·exact ⟨hr,by show 1<=n;omega,j⟩
 ·have c:=g.2;clear g;induction ps with
  | nil=>simp only [Ue];split<;>simp
  | cons p r ih =>
   rw [iL] at c;simp only [Ue];split
   ·rename_i h;rw [iL];refine ⟨?_,ih c.2⟩;intro q e;rcases IS e with f | ⟨rfl,_⟩
    ·exact c.1 q f
    ·exact h
   ·split
    ·split
     ·rename_i i f _;rw [iL];refine ⟨?_,c.2⟩;intro q e;have:=c.1 q e;show w*8+a < q.key;omega
     ·exact c.2
    ·split
     ·rename_i i f _;rw [iL,iL];refine ⟨?_,c⟩;intro q e;show w*8+a < q.key;rcases mem_cons.1 e with rfl | e
      ·omega
      ·have:=c.1 q e;omega
     ·rw [iL];exact c
def fG.cells (p:fG):List D:=[.I p.who,.I p.fq,.I p.units]
def pl (ps:List fG):List (List D):=ps.map fG.cells
@[go_sem] theorem eV (ps:List fG):(pl ps).length=ps.length:=by simp [pl]
theorem uG (ps:List fG) {i:Nat} (h:i < ps.length):(pl ps).getD i []=[.I ps[i].who,.I ps[i].fq,.I ps[i].units]:=by simp [pl,h,fG.cells]
theorem Hs (w a:Int):Sq 264 [] [.I w,.I a] [] (.bool (j6 w a)):=by
 refine bf 19 2 [.tmp 4] mixed func264 ?_;refine s0 ?_;repeat' with_reducible first|apply And.intro|exact .dq|refine aD.bp (by assumption) ?_|refine pq (fun h=>?_) fun h=>?_|refine .id ?_|refine av.eS ah ?_ ?_|exact aJ|simp only [*,go_sem,seval]
 all_goals (simp only [j6];simp<;>omega)
theorem Cq (p:fG) (w a:Int):Sq 265 [] [.agg [.I p.who,.I p.fq,.I p.units],.I w,.I a] [] (.I (Ms p w a)):=by
 refine bf 19 3 [.tmp 6] mixed func265 ?_;refine s0 ?_;repeat' with_reducible first|apply And.intro|exact .dq|refine aD.bp (by assumption) ?_|refine pq (fun h=>?_) fun h=>?_|refine .id ?_|refine av.eS ah ?_ ?_|exact aJ|simp only [*,go_sem,seval]
 all_goals (simp only [Ms];simp_all)
theorem ae' {ps:List fG} {i:Nat} (h:i < ps.length):DP ps i=(j6 ps[i].who ps[i].fq&&decide (1<=ps[i].units)&&decide (ps[i].units<=1099511627776)&&(decide (i=0)||decide (Ms (ps.getD (i-1) ⟨0,0,0⟩) ps[i].who ps[i].fq < 0))):=by
 unfold DP;rw [fO h];cases i with
 | zero=>simp
 | succ i =>
  have c:i < ps.length:=ah
  simp [fO c,getD_eq_getElem?_getD]
theorem XS {ps:List fG} {i:Nat} (h:i < ps.length) (c:DP ps i=false):mN ps=false:=by
 cases e:mN ps
 ·rfl
 ·rw [dn.1 e i (mem_range.2 h)] at c;cases c
theorem UE {ps:List fG} (h:∀ i < ps.length,DP ps i=true):mN ps=true:=dn.2 fun i c=>h i (mem_range.1 c)
theorem Gv (ps:List fG) (hl:ps.length < 2 ^ 62):Sq 170 [] [.sl 3 (pl ps)] [] (.I (if mN ps then 0 else 14)):=by
 refine bf 46 1 [.tmp 2] mixed func170 ?_;refine s0 ?_;refine aM.count ps.length [0,5,6] [112] (fun i=>[(7,.I i)]) (fun i=>[]) (fun i=>∀ j < i,DP ps j=true) (by simp) ?_ ?_
 ·simp only [go_sem,seval]<;>simp
 ·intro i hi m;refine s0 ?_;refine bF.fM (fun h=>?_) (fun h=>?_)
  ·have c:i < ps.length:=ah
   have hw:IntKind.wrap .i64 ((i:Int)+1)=((i+1:Nat):Int):=gN;have hr:=Hs ps[i].who ps[i].fq;have e:=ae' c;have e0:DP ps i=true->∀ k < i+1,DP ps k=true:=fun p k e=>by
    rcases bZ k i with h | h
    ·exact m k h
    ·obtain rfl:k=i:=ah
     exact p
   have l:DP ps i=false->mN ps=false:=XS c;rcases Nat.eq_zero_or_pos i with rfl | hpos
   ·simp only [go_sem,seval,uG ps c];repeat' with_reducible first|apply And.intro|exact .dq|refine aD.bp (by assumption) ?_|refine aD.bp (hr) ?_|refine pq (fun h=>?_) fun h=>?_|refine .id ?_|refine av.eS ah ?_ ?_|exact aJ|simp only [*,go_sem,seval]
    all_goals first
     | omega
     | (refine e0 ?_;rw [e];simp_all<;>omega)
     | rfl
     | (rw [l ?_]
        ·rfl
        ·cases g:DP ps 0
         ·rfl
         ·exfalso;rw [e] at g;simp at g;first | omega | (simp_all;done) | (simp_all;omega))
   ·obtain ⟨j,rfl⟩:∃ j,i=j+1:=⟨i-1,by omega⟩
    have n:j < ps.length:=ah
    have hw1:IntKind.wrap .i64 (((j+1:Nat):Int)-1)=(j:Int):=gN;have f:=Cq ps[j] ps[j+1].who ps[j+1].fq;have o:ps.getD (j+1-1) ⟨0,0,0⟩=ps[j]:=by simp [n]
    rw [o] at e;simp only [go_sem,seval,uG ps c];repeat' with_reducible first|apply And.intro|exact .dq|refine aD.bp (by assumption) ?_|refine aD.bp (hr) ?_|refine aD.bp (f) ?_|refine pq (fun h=>?_) fun h=>?_|refine .id ?_|refine av.eS ah ?_ ?_|exact aJ|simp only [*,go_sem,seval,uG ps n]
    all_goals first
     | omega
     | (refine e0 ?_;rw [e];simp_all<;>omega)
     | rfl
     | (rw [l ?_]
        ·rfl
        ·cases g:DP ps (j+1)
         ·rfl
         ·exfalso;rw [e] at g;simp at g;first | omega | (simp_all;done) | (simp_all;omega))
  ·obtain rfl:i=ps.length:=ah
   have hc:=UE m;repeat' with_reducible first|apply And.intro|exact .dq|refine aD.bp (by assumption) ?_|refine pq (fun h=>?_) fun h=>?_|refine .id ?_|refine av.eS ah ?_ ?_|exact aJ|simp only [*,go_sem,seval]
theorem Wt {ps:List fG} {i:Nat} (h:i < ps.length):ps.drop i=ps[i] :: ps.drop (i+1):=(drop_eq_getElem_cons h)
theorem V2 (w a:Int) (ps:List fG) (hl:ps.length < 2 ^ 62):Sq 318 [] [.I w,.I a,.sl 3 (pl ps)] [] (.I (jH w a ps)):=by
 refine bf 28 3 [.tmp 6] mixed func318 ?_;refine s0 ?_;refine aM.count ps.length [0,1,9,10] [176] (fun i=>[(11,.I i)]) (fun i=>[]) (fun i=>jH w a (ps.drop i)=jH w a ps) (by simp) ?_ ?_
 ·simp only [go_sem,seval]<;>simp
 ·intro i hi e;refine s0 ?_;refine bF.fM (fun h=>?_) (fun h=>?_)
  ·have c:i < ps.length:=ah
   have hw:IntKind.wrap .i64 ((i:Int)+1)=((i+1:Nat):Int):=gN;rw [Wt c] at e;simp only [jH] at e;simp only [go_sem,seval,uG ps c];repeat' with_reducible first|apply And.intro|exact .dq|refine aD.bp (by assumption) ?_|refine pq (fun h=>?_) fun h=>?_|refine .id ?_|refine av.eS ah ?_ ?_|exact aJ|simp only [*,go_sem,seval]
   all_goals (simp_all;done)
  ·obtain rfl:i=ps.length:=ah
   simp only [nx,jH] at e;repeat' with_reducible first|apply And.intro|exact .dq|refine aD.bp (by assumption) ?_|refine pq (fun h=>?_) fun h=>?_|refine .id ?_|refine av.eS ah ?_ ?_|exact aJ|simp only [*,go_sem,seval]
theorem K4 {a b:Int} (h:(a==b)=true):a=b:=by simpa using h
theorem AX (ps:List fG) (hl:ps.length < 2 ^ 30):Sq 137 [] [.sl 3 (pl ps)] [.own 3 (pl ps)] (.ref 0):=by
 refine bf 8 1 [.tmp 2] mixed func137 ?_;refine s0 ?_;refine dH.v9 Ej rfl ah ?_;intro b c;repeat' with_reducible first|apply And.intro|exact .dq|refine aD.bp (by assumption) ?_|refine pq (fun h=>?_) fun h=>?_|refine .id ?_|refine av.eS ah ?_ ?_|exact aJ|simp only [*,go_sem,seval]
 all_goals first
  | omega
  | (rw [c (by assumption)])
  | skip
theorem Wp (ps:List fG) (i:Nat):(pl ps).drop i=pl (ps.drop i):=by simp [pl]
theorem Q4 (ps:List fG) (i:Nat):(pl ps).take i=pl (ps.take i):=by simp [pl]
theorem Iu {ps:List fG}:∀ r∈pl ps,r.length=3:=by
 intro r h;obtain ⟨p,_,rfl⟩:=mem_map.1 h;rfl
theorem DU {ps:List fG}:∀ r∈pl ps,∀ d∈r,bG d:=by
 intro r h d c;obtain ⟨p,_,rfl⟩:=mem_map.1 h;simp only [fG.cells,mem_cons,not_mem_nil,or_false] at c;rcases c with rfl | rfl | rfl<;>simp [go_sem]
theorem DT {ps:List fG}:∀ r∈pl ps,∀ d∈r,kN d=true:=by
 intro r h d c;obtain ⟨p,_,rfl⟩:=mem_map.1 h;simp only [fG.cells,mem_cons,not_mem_nil,or_false] at c;rcases c with rfl | rfl | rfl<;>rfl
theorem Qt (ps:List fG):(pl ps).flatten.length=ps.length*3:=by rw [jS Iu,eV]
theorem UH (ps:List fG) (i j cap:Nat) (hl:ps.length < 2 ^ 30) (hij:i < j) (L:j<=ps.length) (A:ps.length<=cap) :
  ∃ cs,(pl (ps.take i++ps.drop j)).length<=cap/\cs.length=cap*3/\cs.take ((pl (ps.take i++ps.drop j)).length*3)=(pl (ps.take i++ps.drop j)).flatten /\
   Sq 321 [.box (dR (pl ps) cap 3)] [.bW 0 0 3 (pl ps).length cap,.I i,.I j] [.box cs] (.bW 0 0 3 (pl (ps.take i++ps.drop j)).length cap):=by
 obtain ⟨R,E⟩:=aQ (ps.take i++ps.drop j);have p:R.length=ps.length-(j-i):=by subst E;simp;omega
 rw [<- E];obtain ⟨B,g⟩:∃ X,X=gD (dR (pl ps) cap 3) (0+i*3) (pl (ps.drop j)).flatten:=⟨_,rfl⟩
 obtain ⟨C,k⟩:∃ X,X=gD B (R.length*3) (replicate (ps.length-R.length) [D.I 0,.I 0,.I 0]).flatten:=⟨_,rfl⟩
 have n:(dR (pl ps) cap 3).length=cap*3:=lB Iu (by rw [eV];exact A);have t:(pl (ps.drop j)).flatten.length=(ps.length-j)*3:=by rw [Qt,fj]
 have J:(replicate (ps.length-R.length) [D.I 0,D.I 0,D.I 0]).flatten.length=(ps.length-R.length)*3:=sN rfl _;have f:B.length=cap*3:=by rw [g,fF (by rw [n,t];omega),n]
 have s:C.length=cap*3:=by rw [k,fF (by rw [f,J];omega),f]
 have o:∀ d∈C,kN d=true:=by
  rw [k,g];refine nr (nr (uX DT) (mX DT)) (mX ?_);intro r hr d F;rw [(mem_replicate.1 hr).2] at F;simp only [mem_cons,not_mem_nil,or_false] at F;rcases F with rfl | rfl | rfl<;>rfl
 refine ⟨C,?_,?_,?_,?_⟩
 ·simp only [eV];omega
 ·exact s
 ·rw [eV,k,qX (dU _) (by rw [f];omega),g];have e:R.length*3=(0+i*3)+(pl (ps.drop j)).flatten.length:=by rw [t,p];omega
  rw [e,nX (by rw [n];omega),Nat.zero_add,oF Iu (by rw [eV];omega),Q4,E];simp [pl]
 ·refine bf 33 3 [.tmp 6] mixed func321 ?_;refine s0 ?_;with_reducible refine dH.ac1 (r:=0) (off:=0) (l:=ps.length) (c:=cap) (k1:=.i64) (k2:=.i64) (k3:=.i64) (i:=i) (j:=j) (m:=ps.length) Ej ?_ ?_ ?_ ?_ ?_ ?_ ?_ ?_ ?_ ?_
  iterate 9 (first | rfl | omega)
  refine s0 ?_;have G:((i:Int)==(j:Int))=false:=by simp;omega
  simp only [G,go_sem,seval];refine ⟨eZ.mk (by kernel_rfl),vO.mk (by kernel_rfl),by omega,vO.mk (by kernel_rfl),⟨by omega,A⟩,?_⟩;have v:(pl (ps.drop j)).length=ps.length-j:=by simp only [eV,fj]
  have K:gS (j*3) 3 (ps.length-j) (.box (dR (pl ps) cap 3))=.sl 3 (pl (ps.drop j)):=by
   have:=yC (rows:=pl ps) (cap:=cap) (i:=j) Iu DU (by rw [eV];exact L) (by rw [eV];exact A);rw [eV,Wp] at this;exact this
  with_reducible refine dH.aaR (r:=0) (off:=0) (l:=i) (c:=cap) (cs:=dR (pl ps) cap 3) (rows2:=pl (ps.drop j)) Ej Ej ?_ ?_ ?_ ?_ ?_ ?_ ?_
  ·rfl
  ·rfl
  ·show iR 3 (bS _ (gS (j*3) 3 (ps.length-j) (.box (dR (pl ps) cap 3))))=_;rw [K];rfl
  ·omega
  ·omega
  ·intro _;have x:i+(pl (ps.drop j)).length=R.length:=by rw [v,p];omega
   have y:i+(ps.drop j).length=R.length:=by rw [<- x,eV]
   refine ⟨?_,?_⟩
   ·rw [lB Iu (by rw [eV];exact A),x,Nat.zero_add];exact l6 3 ah
   ·rw [<- g];refine sm y ?_;refine ⟨⟨by omega,by omega⟩,?_⟩;with_reducible refine dH.clear (r:=0) (off:=R.length*3) (l:=ps.length-R.length) (c:=cap-R.length) (cs:=B) (zc:=[.I 0,.I 0,.I 0]) Ej ?_ ?_ ?_ ?_ ?_ ?_ ?_
    ·rfl
    ·rfl
    ·exact adI
    ·rfl
    ·simp [go_sem]
    ·rw [f];omega
    ·rw [<- k];refine s0 ?_;exact mY o
  ·intro h;exfalso;rw [v] at h;omega
theorem RP (ps:List fG) (i j:Nat) (o:ps.length < 2 ^ 30) (e:i < j) (n:j<=ps.length) :
  Sq 321 [.own 3 (pl ps)] [.ref 0,.I i,.I j] [.undef,.own 3 (pl (ps.take i++ps.drop j))] (.ref 1):=by
 refine Spec.Ql (hr:=[]) (ds:=[.I i,.I j]) ?_ Iu DU ?_ (by simp) ?_
 ·intro h;have:=congrArg length h;rw [eV] at this;have h0:ps.length=0:=this;omega
 ·intro d f;simp only [mem_cons,not_mem_nil,or_false] at f;rcases f with rfl | rfl<;>simp [D.names]
 ·intro cap c;obtain ⟨cs,g,k,l,m⟩:=UH ps i j cap o e n (by rw [eV] at c;exact c);exact .inl ⟨cs,g,k,l,m⟩
theorem U2 (ps:List fG) (q:fG) (hl:ps.length < 2 ^ 30) :
  Sq 322 [.own 3 (pl ps),.own 3 (pl [q])] [.ref 0,.I ps.length,.ref 1] [.undef,.undef,.own 3 (pl (ps++[q]))] (.ref 2):=by
 refine bf 95 3 [.tmp 6] mixed func322 ?_;refine s0 ?_;refine ⟨by omega,by omega,by simp [pl]⟩
theorem LP {A Z B:List (List D)} {k:Nat} (c:k=A.length) (e:B.length=Z.length):splice (A++Z) k B=A++B:=by
 subst c;unfold splice;rw [take_left,e,<- cm,nx,append_nil]
theorem LR {A Z:List (List D)} {q:List D} {k:Nat} (c:k=A.length):splice (A++Z) k [q]=(A++[q])++Z.drop 1:=by
 subst c;unfold splice;rw [take_left,drop_append,drop_eq_nil_of_le (by simp)];simp
theorem afg:Extern.find Tryz.f357=some (Extern.SlicesOverlaps.overlaps Tryz.f357.params Tryz.f357.resultTypes):=bD
theorem afh:Extern.findNext Tryz.f357=none:=bD
theorem aud:Tryz.f357.params[0]?=some 36:=by rfl
theorem U3 (ps:List fG) (q:fG) (i:Nat) (hl:ps.length < 2 ^ 30) (hi:i < ps.length) :
  Sq 322 [.own 3 (pl ps),.own 3 (pl [q])] [.ref 0,.I i,.ref 1] [.undef,.undef,.own 3 (pl (ps.take i++[q]++ps.drop i))] (.ref 2):=by
 refine Spec.Ql (hr:=[.own 3 (pl [q])]) (ds:=[.I i,.ref 1]) ?_ Iu DU ?_ ?_ ?_
 ·intro h;have:=congrArg length h;rw [eV] at this;have h0:ps.length=0:=this;omega
 ·intro d O;simp only [mem_cons,not_mem_nil,or_false] at O;rcases O with rfl | rfl<;>simp [D.names]
 ·intro h hh;simp only [mem_cons,not_mem_nil,or_false] at hh;exact ⟨_,_,hh⟩
 intro cap e;rw [eV] at e;have j:(dR (pl ps) cap 3).length=cap*3:=lB Iu (by rw [eV];exact e);have S:((i:Int)==(ps.length:Int))=false:=by simp;omega
 have W:IntKind.wrap .i64 ((ps.length:Int)+1)=((ps.length+1:Nat):Int):=gN;have y:IntKind.wrap .i64 ((i:Int)+1)=((i+1:Nat):Int):=gN;have ab:IntKind.wrap .i64 (((ps.length+1:Nat):Int)-i)=((ps.length+1-i:Nat):Int):=gN;have N:gS (i*3) 3 (ps.length-i) (.box (dR (pl ps) cap 3))=.sl 3 (pl (ps.drop i)):=by
  have:=yC (rows:=pl ps) (cap:=cap) (i:=i) Iu DU (by rw [eV];omega) (by rw [eV];exact e);rw [eV,Wp] at this;exact this
 have aa:gS 0 3 i (.box (dR (pl ps) cap 3))=.sl 3 (pl (ps.take i)):=by
  have s:(pl (ps.take i)).length=i:=by rw [eV,dY];omega
  have:=Pu (z:=3) (off:=0) (cs:=dR (pl ps) cap 3) (R:=pl (ps.take i)) (by rw [drop_zero,s,oF Iu (by rw [eV];omega),Q4]) Iu DU (by rw [s,j];omega);rw [s] at this;exact this
 have P:(pl (ps.drop i)).flatten.length=(ps.length-i)*3:=by rw [Qt,fj]
 by_cases hfit:ps.length+1<=cap
 ·left;obtain ⟨J,t⟩:∃ X,X=gD (dR (pl ps) cap 3) ((i+1)*3) (pl (ps.drop i)).flatten:=⟨_,rfl⟩
  obtain ⟨V,x⟩:∃ X,X=gD J (i*3) (pl [q]).flatten:=⟨_,rfl⟩
  have p:J.length=cap*3:=by rw [t,fF (by rw [j,P];omega),j]
  have G:(pl [q]).flatten.length=3:=by rw [Qt];rfl
  have L:V.length=cap*3:=by rw [x,fF (by rw [p,G];omega),p]
  have F:∀ d∈V,kN d=true:=by
   rw [x,t];exact nr (nr (uX DT) (mX DT)) (mX DT)
  refine ⟨V,?_,?_,?_,?_⟩
  ·simp only [eV];simp;omega
  ·exact L
  ·have e0:(pl (ps.take i++[q]++ps.drop i)).length*3=(i+1)*3+(pl (ps.drop i)).flatten.length:=by
    rw [P,eV];simp;omega
   have e1:(pl (ps.take i++[q]++ps.drop i)).flatten=(pl (ps.take i)).flatten++(pl [q]).flatten++(pl (ps.drop i)).flatten:=by simp [pl]
   have e2:J.take (i*3)=(pl (ps.take i)).flatten:=by
    rw [t,qX ah (by rw [j];omega),oF Iu (by rw [eV];omega),Q4]
   have e3:J.take ((i+1)*3+(pl (ps.drop i)).flatten.length)=(dR (pl ps) cap 3).take ((i+1)*3)++(pl (ps.drop i)).flatten:=by
    rw [t,nX (by rw [j];omega)]
   rw [e0,e1,x];unfold gD;have s:(J.take (i*3)++(pl [q]).flatten).length=(i+1)*3:=by rw [cm,G,dY,p];omega
   rw [take_append,take_of_length_le (by rw [s];omega),s,G,e2];congr 1;have e4:i*3+3=(i+1)*3:=ah
   rw [e4,Nat.add_sub_cancel_left];have:=congrArg (drop ((i+1)*3)) e3;have hX:((dR (pl ps) cap 3).take ((i+1)*3)).length=(i+1)*3:=by rw [dY,j];omega
   rw [drop_take,Nat.add_sub_cancel_left,drop_append_of_le_length ah] at this;have T:((dR (pl ps) cap 3).take ((i+1)*3)).drop ((i+1)*3)=[]:=drop_eq_nil_of_le ah;rw [T,nil_append] at this;exact this
  ·show Sq 322 [.box (dR (pl ps) cap 3),.own 3 (pl [q])] [.bW 0 0 3 (pl ps).length cap,.I i,.ref 1] [.box V,.undef] (.bW 0 0 3 (pl (ps.take i++[q]++ps.drop i)).length cap);refine bf 95 3 [.tmp 6] mixed func322 ?_;refine sm (a2 S W) ?_;refine ⟨⟨by omega,e⟩,?_⟩;with_reducible refine dH.cap (r:=0) (off:=0) (l:=ps.length) (c:=cap) Ej ?_ ?_ ?_
   ·rfl
   ·omega
   refine s0 ?_;refine bF.fM (fun h=>?_) (fun h=>?_)
   ·exfalso;omega
   refine sm (a2 W y) ?_;refine ⟨by omega,by omega,?_⟩;refine aD.sem rfl ?_;with_reducible refine dH.overlaps (k:=357) (fn:=Tryz.f357) (t0:=36) (z:=3) (r2:=1) (z2:=3) (rows:=pl [q]) (r:=0) (off:=(i+1)*3) (l:=ps.length-i) (c:=cap-(i+1)) (cs:=dR (pl ps) cap 3) ?_ func357 ?_ ?_ afh afg aud Ej ?_ ?_ ?_ ?_ ?_ ?_
   iterate 8 (first | rfl | omega)
   refine sm y ?_;refine ⟨eZ.mk (by kernel_rfl),vO.mk (by kernel_rfl),⟨by omega,by omega⟩,vO.mk (by kernel_rfl),⟨by omega,by omega⟩,?_⟩;have v:min (ps.length+1-i) (ps.length-i)=ps.length-i:=ah
   with_reducible refine dH.Cr (z:=3) (r:=0) (off:=(i+1)*3) (l:=ps.length-i) (c:=cap-0-(i+1)) (ly:=ps.length+1-i) (cs:=dR (pl ps) cap 3) (rows:=pl (ps.drop i)) Ej ?_ ?_ ?_ ?_ ?_ ?_
   ·rfl
   ·rfl
   ·show _=3/\_=_/\_<=_/\iR 3 (bS _ (gS (i*3) 3 (min (ps.length+1-i) (ps.length-i)) (.box (dR (pl ps) cap 3))))=some _;rw [v,N];exact ⟨rfl,rfl,by omega,rfl⟩
   ·omega
   ·rw [v,j];omega
   rw [<- t,v];refine s0 ?_;refine ⟨⟨by omega,by omega⟩,?_⟩;have n:min 1 (ps.length+1-i)=1:=ah
   with_reducible refine dH.Cr (z:=3) (r:=0) (off:=i*3) (l:=ps.length+1-i) (c:=cap-0-i) (ly:=1) (cs:=J) (rows:=pl [q]) Ej ?_ ?_ ?_ ?_ ?_ ?_
   ·rfl
   ·rfl
   ·refine ⟨pl [q],rfl,rfl,by omega,?_⟩;rw [n];rfl
   ·omega
   ·rw [n,p];omega
   rw [<- x,n];refine s0 ?_;exact ⟨⟨by simp;omega,rfl⟩,mY F⟩
 ·right;show Sq 322 [.box (dR (pl ps) cap 3),.own 3 (pl [q])] [.bW 0 0 3 (pl ps).length cap,.I i,.ref 1] [.undef,.undef,.own 3 (pl (ps.take i++[q]++ps.drop i))] (.ref 2);refine bf 95 3 [.tmp 6] mixed func322 ?_;refine sm (a2 S W) ?_;refine ⟨⟨by omega,e⟩,?_⟩;with_reducible refine dH.cap (r:=0) (off:=0) (l:=ps.length) (c:=cap) Ej ?_ ?_ ?_
  ·rfl
  ·omega
  refine s0 ?_;refine bF.fM (fun h=>?_) (fun h=>?_)
  ·refine sm (a3 W y ab) ?_;refine ⟨by omega,?_⟩;with_reducible refine dH.Rk (k:=.i64) (k2:=.i64) (m:=ps.length+1-i) (r:=0) (off:=0) (l:=i) (c:=cap) (rows:=pl (ps.take i)) (zc:=[.I 0,.I 0,.I 0]) Ej ty3 ?_ ?_ adI ?_ ?_ ?_ ?_ ?_ ?_ ?_ ?_ ?_ ?_ ?_
   ·rfl
   ·rfl
   ·rfl
   ·intro d O;simp only [mem_cons,not_mem_nil,or_false] at O;rcases O with rfl | rfl | rfl<;>simp [go_sem]
   ·omega
   ·omega
   ·omega
   ·omega
   ·show bS _ (gS 0 3 i (.box (dR (pl ps) cap 3)))=_;rw [aa];rfl
   ·rw [eV,dY];omega
   ·omega
   ·rfl
   obtain ⟨Z,hZ⟩:∃ X,X=replicate (ps.length+1-i) [D.I 0,D.I 0,D.I 0]:=⟨_,rfl⟩
   have M:Z.length=ps.length+1-i:=by rw [hZ];simp
   obtain ⟨Y,B⟩:∃ X,X=pl (ps.take i)++Z:=⟨_,rfl⟩
   have E:i=(pl (ps.take i)).length:=by rw [eV,dY];omega
   have o:Y.length=ps.length+1:=by rw [B,cm,<- E,M];omega
   obtain ⟨U,C⟩:∃ X,X=splice Y i (pl [q]):=⟨_,rfl⟩
   have A:U.length=ps.length+1:=by rw [C,vH (by rw [o];show i+1<=_;omega),o]
   obtain ⟨O3,K⟩:∃ X,X=splice U (i+1) (pl (ps.drop i)):=⟨_,rfl⟩
   have Q:O3=pl (ps.take i++[q]++ps.drop i):=by
    have h2:U=(pl (ps.take i)++pl [q])++Z.drop 1:=by rw [C,B];exact LR E
    rw [K,h2,LP (by rw [cm,<- E];rfl) (by rw [eV,fj,fj,M];omega)];simp [pl]
   rw [<- hZ,<- B];simp only [go_sem,seval,o];refine ⟨⟨by omega,by omega⟩,?_⟩;have f:min 1 (ps.length+1-i)=1:=ah
   with_reducible refine dH.IU (z:=3) (r:=656) (lo:=i) (len:=ps.length+1-i) (ly:=1) (R:=Y) (rows:=pl [q]) Ej ?_ ?_ ?_ ?_ ?_ ?_ ?_
   ·rfl
   ·rfl
   ·refine ⟨pl [q],rfl,rfl,by omega,?_⟩;rw [f];rfl
   ·omega
   ·rw [f,o];omega
   ·rw [f];omega
   rw [<- C,f];simp only [go_sem,seval,A,y];refine ⟨eZ.mk (by kernel_rfl),vO.mk (by kernel_rfl),⟨by omega,by omega⟩,vO.mk (by kernel_rfl),⟨by omega,e⟩,?_⟩;have g:min (ps.length-i) (ps.length-i)=ps.length-i:=ah
   with_reducible refine dH.IU (z:=3) (r:=656) (lo:=i+1) (len:=ps.length-i) (ly:=ps.length-i) (R:=U) (rows:=pl (ps.drop i)) Ej ?_ ?_ ?_ ?_ ?_ ?_ ?_
   ·rfl
   ·rfl
   ·show _=3/\_=_/\_<=_/\iR 3 (bS _ (gS (i*3) 3 (min (ps.length-i) (ps.length-i)) (.box (dR (pl ps) cap 3))))=some _;rw [g,N];exact ⟨rfl,rfl,by omega,rfl⟩
   ·omega
   ·rw [g,A];omega
   ·rw [g];omega
   rw [<- K,g,Q];exact gU
  ·exfalso;omega
def sn (z:Nat) (r:List D):Prop:=r.length=z/\(∀ d∈r,bG d)/\∀ d∈r,kN d=true
structure Xw (τ:TypeId->TypeId) (ρ:FuncId->FuncId) (z by_:Nat) (zc:List D) (fo:Func):Prop where
 rn:Mi prog τ ρ 322 3
 t0:τ 0=0
 t3:τ 3=3
 t4:τ 4=4
 pos:1<=z
 big:by_<=1024
 sl:dV prog (τ 36)=.slice z by_ true
 zel:eE prog (τ 36)=some zc
 zc:sn z zc
 o1:prog.funcs[ρ 357]?=some fo
 o2 : (fo.name == "runtime.NumGoroutine") = false
 o3:fo.body.isNone=true
 o4:Extern.findNext fo=none
 o5:Extern.find fo=some (Extern.SlicesOverlaps.overlaps fo.params fo.resultTypes)
 o6:fo.params[0]?=some (τ 36)
 np:(τ 36==D1||τ 36==D2)=false
section
variable {τ:TypeId->TypeId} {ρ:FuncId->FuncId} {z by_:Nat} {zc:List D} {fo:Func} (H:Xw τ ρ z by_ zc fo)
include H
theorem abA (R:List (List D)) (q:List D) (g:R.length < 2 ^ 30) :
  Sq (ρ 322) [.own z R,.own z [q]] [.ref 0,.I R.length,.ref 1] [.undef,.undef,.own z (R++[q])] (.ref 2):=by
 have f:=H.big;have hz:=H.pos;have h:(by_+1)*(R.length+1)<=2 ^ 45:=Nat.le_trans (Nat.mul_le_mul (Nat.succ_le_succ f) (Nat.succ_le_of_lt (Nat.lt_of_lt_of_le (Nat.lt_succ_self _) g))) (by decide);have c:=H.np;simp only [D1,D2] at c;refine IA 95 3 [.tmp 6] (H.rn) mixed func322 fun e=>?_;simp only [I7,Zp,GF,I8,Zo,toList_toArray,map_cons,map_nil,H.t0,H.t3,H.t4,gp,Bool.not_true,Bool.not_false,Bool.true_or,Bool.false_or,Bool.and_true,fc,cU] at e |-;simp only [go_sem,seval,H.sl,Nat.zero_mul,c];exact ⟨by omega,by omega,by simpa using h⟩
theorem abB (R:List (List D)) (q:List D) (i:Nat) (hl:R.length < 2 ^ 30) (hi:i < R.length) (O:∀ r∈R,sn z r) (hq:sn z q) :
  Sq (ρ 322) [.own z R,.own z [q]] [.ref 0,.I i,.ref 1] [.undef,.undef,.own z (R.take i++[q]++R.drop i)] (.ref 2):=by
 have M:∀ r∈R,r.length=z:=fun r hr=>(O r hr).1;have hp:∀ r∈R,∀ d∈r,bG d:=fun r hr=>(O r hr).2.1;have aa:∀ r∈R,∀ d∈r,kN d=true:=fun r hr=>(O r hr).2.2;have E:∀ r∈R.take i++[q]++R.drop i,sn z r:=fun r hr=>by
  rw [mem_append,mem_append,ga] at hr;rcases hr with (hr | rfl) | hr
  ·exact O r (mem_of_mem_take hr)
  ·exact hq
  ·exact O r (mem_of_mem_drop hr)
 have hb:=H.big;obtain ⟨af,ag,_⟩:=H.zc;have hz1:=H.pos;have e:=H.np;simp only [D1,D2] at e;refine Spec.Ql (hr:=[.own z [q]]) (ds:=[.I i,.ref 1]) (by intro h;rw [h] at hi;simp at hi) (fun r hr=>(E r hr).1) (fun r hr=>(E r hr).2.1) ?_ ?_ ?_
 ·intro d hd;simp only [mem_cons,not_mem_nil,or_false] at hd;rcases hd with rfl | rfl<;>simp [D.names]
 ·intro h hh;simp only [mem_cons,not_mem_nil,or_false] at hh;exact ⟨_,_,hh⟩
 intro cap j;have n:(dR R cap z).length=cap*z:=lB M j;have ab:((i:Int)==(R.length:Int))=false:=by simp;omega
 have hw:IntKind.wrap .i64 ((R.length:Int)+1)=((R.length+1:Nat):Int):=gN;have B:IntKind.wrap .i64 ((i:Int)+1)=((i+1:Nat):Int):=gN;have ae:IntKind.wrap .i64 (((R.length+1:Nat):Int)-i)=((R.length+1-i:Nat):Int):=gN;have S:gS (i*z) z (R.length-i) (.box (dR R cap z))=.sl z (R.drop i):=yC M hp ah j;have p:(R.take i).length=i:=by rw [dY];omega
 have U:(R.drop i).length=R.length-i:=fj;have ad:gS 0 z i (.box (dR R cap z))=.sl z (R.take i):=by
  have:=Pu (z:=z) (off:=0) (cs:=dR R cap z) (R:=R.take i) (by rw [drop_zero,p,oF M ah]) (fun r hr=>M r (mem_of_mem_take hr)) (fun r hr=>hp r (mem_of_mem_take hr)) (by rw [p,n,Nat.zero_add];exact l6 z ah);rw [p] at this;exact this
 have T:(R.drop i).flatten.length=(R.length-i)*z:=by rw [jS fun r hr=>M r (mem_of_mem_drop hr),U]
 have m1:(i+1)*z+(R.length-i)*z=(R.length+1)*z:=by rw [<- Nat.add_mul];congr 1;omega
 have m2:i*z+z=(i+1)*z:=by rw [Nat.add_mul,Nat.one_mul]
 by_cases W:R.length+1<=cap
 ·left;have m3:(R.length+1)*z<=cap*z:=l6 z W;have m4:(i+1)*z<=cap*z:=l6 z ah;obtain ⟨L,v⟩:∃ X,X=gD (dR R cap z) ((i+1)*z) (R.drop i).flatten:=⟨_,rfl⟩
  obtain ⟨Y2,A⟩:∃ X,X=gD L (i*z) ([q]:List (List D)).flatten:=⟨_,rfl⟩
  have t:L.length=cap*z:=by rw [v,fF (by rw [n,T,m1];exact m3),n]
  have K:([q]:List (List D)).flatten.length=z:=by simp [hq.1]
  have P:Y2.length=cap*z:=by rw [A,fF (by rw [t,K,m2];exact m4),t]
  have J:∀ d∈Y2,kN d=true:=by
   rw [A,v];exact nr (nr (uX aa) (mX fun r hr=>aa r (mem_of_mem_drop hr))) (mX fun r hr=>by rw [ga.1 hr];exact hq.2.2)
  refine ⟨Y2,?_,P,?_,?_⟩
  ·simp;omega
  ·have e0:(R.take i++[q]++R.drop i).length*z=(i+1)*z+(R.drop i).flatten.length:=by
    rw [T,m1];congr 1;simp;omega
   have e1:(R.take i++[q]++R.drop i).flatten=(R.take i).flatten++([q]:List (List D)).flatten++(R.drop i).flatten:=by simp
   have e2:L.take (i*z)=(R.take i).flatten:=by
    rw [v,qX ah (by rw [n];exact m4),oF M ah]
   have e3:L.take ((i+1)*z+(R.drop i).flatten.length)=(dR R cap z).take ((i+1)*z)++(R.drop i).flatten:=by
    rw [v,nX (by rw [n];exact m4)]
   rw [e0,e1,A];unfold gD;have Y:(L.take (i*z)++([q]:List (List D)).flatten).length=(i+1)*z:=by rw [cm,K,dY,t];omega
   rw [take_append,take_of_length_le (by rw [Y];omega),Y,K,e2];congr 1;rw [m2,Nat.add_sub_cancel_left];have:=congrArg (drop ((i+1)*z)) e3;have hX:((dR R cap z).take ((i+1)*z)).length=(i+1)*z:=by rw [dY,n];omega
   rw [drop_take,Nat.add_sub_cancel_left,drop_append_of_le_length ah] at this;have ac:((dR R cap z).take ((i+1)*z)).drop ((i+1)*z)=[]:=drop_eq_nil_of_le ah;rw [ac,nil_append] at this;exact this
  ·show Sq (ρ 322) [.box (dR R cap z),.own z [q]] [.bW 0 0 z R.length cap,.I i,.ref 1] [.box Y2,.undef] (.bW 0 0 z (R.take i++[q]++R.drop i).length cap);refine IA 95 3 [.tmp 6] (H.rn) mixed func322 fun x=>?_;simp only [I7,Zp,GF,I8,Zo,toList_toArray,map_cons,map_nil,H.t0,H.t3,H.t4,gp,Bool.not_true,Bool.not_false,Bool.true_or,Bool.false_or,Bool.and_true,fc,cU] at x |-;simp only [go_sem,seval,H.sl,Nat.zero_mul,e,ab,hw];refine ⟨⟨by omega,j⟩,?_⟩;with_reducible refine dH.cap (r:=0) (off:=0) (l:=R.length) (c:=cap) H.sl ?_ ?_ ?_
   ·rfl
   ·omega
   simp only [go_sem,seval,H.sl,Nat.zero_mul,e];refine bF.fM (fun h=>?_) (fun h=>?_)
   ·exfalso;omega
   simp only [go_sem,seval,H.sl,Nat.zero_mul,e,hw,B];refine ⟨by omega,by omega,?_⟩;refine aD.sem rfl ?_;with_reducible refine dH.overlaps (k:=ρ 357) (fn:=fo) (z:=z) (r2:=1) (z2:=z) (rows:=[q]) (r:=0) (off:=(i+1)*z) (l:=R.length-i) (c:=cap-(i+1)) (cs:=dR R cap z) ?_ H.o1 H.o2 H.o3 H.o4 H.o5 H.o6 H.sl ?_ ?_ ?_ ?_ ?_ ?_
   iterate 6 (first | rfl | omega)
   simp only [go_sem,seval,H.sl,Nat.zero_mul,e,B];refine ⟨eZ.mk (by simp only [x]),vO.mk (by kernel_rfl),⟨by omega,by omega⟩,vO.mk (by kernel_rfl),⟨by omega,by omega⟩,?_⟩;have y:min (R.length+1-i) (R.length-i)=R.length-i:=ah
   with_reducible refine dH.Cr (z:=z) (r:=0) (off:=(i+1)*z) (l:=R.length-i) (c:=cap-0-(i+1)) (ly:=R.length+1-i) (cs:=dR R cap z) (rows:=R.drop i) H.sl ?_ ?_ ?_ ?_ ?_ ?_
   ·rfl
   ·rfl
   ·show _=z/\_=_/\_<=_/\iR z (bS _ (gS (i*z) z (min (R.length+1-i) (R.length-i)) (.box (dR R cap z))))=some _;rw [y,S];exact ⟨rfl,rfl,by omega,by simp [iR,bS]⟩
   ·omega
   ·rw [y,n,m1];exact m3
   rw [<- v,y];simp only [go_sem,seval,H.sl,Nat.zero_mul,e];refine ⟨⟨by omega,by omega⟩,?_⟩;have o:min 1 (R.length+1-i)=1:=ah
   with_reducible refine dH.Cr (z:=z) (r:=0) (off:=i*z) (l:=R.length+1-i) (c:=cap-0-i) (ly:=1) (cs:=L) (rows:=[q]) H.sl ?_ ?_ ?_ ?_ ?_ ?_
   ·rfl
   ·rfl
   ·refine ⟨[q],show (if z=z then some [q] else none)=some [q] from aq rfl,rfl,by omega,?_⟩;rw [o];rfl
   ·omega
   ·rw [o,t,Nat.one_mul,m2];exact m4
   rw [<- A,o];simp only [go_sem,seval,H.sl,Nat.zero_mul,e];exact ⟨⟨by simp;omega,rfl⟩,mY J⟩
 ·right;have m5:(by_+1)*(R.length+1)<=2 ^ 45:=Nat.le_trans (Nat.mul_le_mul (Nat.succ_le_succ hb) (Nat.succ_le_of_lt (Nat.lt_of_lt_of_le (Nat.lt_succ_self _) hl))) (by decide);show Sq (ρ 322) [.box (dR R cap z),.own z [q]] [.bW 0 0 z R.length cap,.I i,.ref 1] [.undef,.undef,.own z (R.take i++[q]++R.drop i)] (.ref 2);refine IA 95 3 [.tmp 6] (H.rn) mixed func322 fun x=>?_;simp only [I7,Zp,GF,I8,Zo,toList_toArray,map_cons,map_nil,H.t0,H.t3,H.t4,gp,Bool.not_true,Bool.not_false,Bool.true_or,Bool.false_or,Bool.and_true,fc,cU] at x |-;simp only [go_sem,seval,H.sl,Nat.zero_mul,e,ab,hw];refine ⟨⟨by omega,j⟩,?_⟩;with_reducible refine dH.cap (r:=0) (off:=0) (l:=R.length) (c:=cap) H.sl ?_ ?_ ?_
  ·rfl
  ·omega
  simp only [go_sem,seval,H.sl,Nat.zero_mul,e];refine bF.fM (fun h=>?_) (fun h=>?_)
  ·simp only [go_sem,seval,H.sl,Nat.zero_mul,e,hw,B,ae];refine ⟨by omega,?_⟩;with_reducible refine dH.Rk (k:=.i64) (k2:=.i64) (m:=R.length+1-i) (r:=0) (off:=0) (l:=i) (c:=cap) (rows:=R.take i) (zc:=zc) H.sl ty3 ?_ ?_ H.zel af ag ?_ ?_ ?_ ?_ ?_ ?_ ?_ ?_ ?_
   ·rfl
   ·rfl
   ·omega
   ·omega
   ·omega
   ·omega
   ·show bS _ (gS 0 z i (.box (dR R cap z)))=_;rw [ad];rfl
   ·exact p
   ·rw [show i+(R.length+1-i)=R.length+1 by omega];exact m5
   ·rfl
   obtain ⟨Z,hZ⟩:∃ X,X=replicate (R.length+1-i) zc:=⟨_,rfl⟩
   have Q:Z.length=R.length+1-i:=by rw [hZ];simp
   obtain ⟨O1,F⟩:∃ X,X=R.take i++Z:=⟨_,rfl⟩
   have s:O1.length=R.length+1:=by rw [F,cm,p,Q];omega
   obtain ⟨O2,G⟩:∃ X,X=splice O1 i [q]:=⟨_,rfl⟩
   have C:O2.length=R.length+1:=by rw [G,vH (by rw [s];show i+1<=_;omega),s]
   obtain ⟨O3,N⟩:∃ X,X=splice O2 (i+1) (R.drop i):=⟨_,rfl⟩
   have V:O3=R.take i++[q]++R.drop i:=by
    have h2:O2=(R.take i++[q])++Z.drop 1:=by rw [G,F];exact LR p.symm
    rw [N,h2,LP (by rw [cm,p];rfl) (by rw [U,fj,Q];omega)]
   rw [<- hZ,<- F];simp only [go_sem,seval,H.sl,Nat.zero_mul,e,s];refine ⟨⟨by omega,by omega⟩,?_⟩;have f:min 1 (R.length+1-i)=1:=ah
   with_reducible refine dH.IU (z:=z) (r:=656) (lo:=i) (len:=R.length+1-i) (ly:=1) (R:=O1) (rows:=[q]) H.sl ?_ ?_ ?_ ?_ ?_ ?_ ?_
   ·rfl
   ·rfl
   ·refine ⟨[q],show (if z=z then some [q] else none)=some [q] from aq rfl,rfl,by omega,?_⟩;rw [f];rfl
   ·omega
   ·rw [f,s];omega
   ·rw [f];omega
   rw [<- G,f];simp only [go_sem,seval,H.sl,Nat.zero_mul,e,C,B];refine ⟨eZ.mk (by simp only [x]),vO.mk (by kernel_rfl),⟨by omega,by omega⟩,vO.mk (by kernel_rfl),⟨by omega,j⟩,?_⟩;have g:min (R.length-i) (R.length-i)=R.length-i:=ah
   with_reducible refine dH.IU (z:=z) (r:=656) (lo:=i+1) (len:=R.length-i) (ly:=R.length-i) (R:=O2) (rows:=R.drop i) H.sl ?_ ?_ ?_ ?_ ?_ ?_ ?_
   ·rfl
   ·rfl
   ·show _=z/\_=_/\_<=_/\iR z (bS _ (gS (i*z) z (min (R.length-i) (R.length-i)) (.box (dR R cap z))))=some _;rw [g,S];exact ⟨rfl,rfl,by omega,by simp [iR,bS]⟩
   ·omega
   ·rw [g,C];omega
   ·rw [g];omega
   rw [<- N,g,V];simp only [go_sem,seval,H.sl,Nat.zero_mul,e]
  ·exfalso;omega
theorem ur (R:List (List D)) (q:List D) (i:Nat) (c:R.length < 2 ^ 30) (hi:i<=R.length) (e:∀ r∈R,sn z r) (f:sn z q) :
  Sq (ρ 322) [.own z R,.own z [q]] [.ref 0,.I i,.ref 1] [.undef,.undef,.own z (R.take i++[q]++R.drop i)] (.ref 2):=by
 rcases bZ i R.length with h | h
 ·exact abB H R q i c h e f
 ·obtain rfl:i=R.length:=ah
  have:=abA H R q c;rw [jr,nx,append_nil];exact this
end
theorem RE (p:fG) (x w a:Int):Sq 320 [] [.agg [.I p.who,.I p.fq,.I p.units],.I x,.bq [.I w],.bq [.I a]] [] (.I (Ms p w a)):=by
 have h:=Cq p w a;refine bf 11 4 [.tmp 6] mixed func320 ?_;refine s0 ?_;repeat' with_reducible first|apply And.intro|exact .dq|refine aD.bp (by assumption) ?_|refine pq (fun h=>?_) fun h=>?_|refine .id ?_|refine av.eS ah ?_ ?_|exact aJ|simp only [*,go_sem,seval]
theorem half {i j:Nat} (h:i+j < 2 ^ 63):IntKind.wrap .i64 (Af .u64 (IntKind.wrap .u64 (IntKind.wrap .i64 ((i:Int)+j))) 1)=(((i+j) / 2:Nat):Int):=by
 rw [gA (x:=(i:Int)+j) ah ah];have c:∀ x:Int,0<=x->x < 18446744073709551616->IntKind.wrap .u64 x=x:=by
  intro x h1 h2;simp [IntKind.wrap,IntKind.signed,IntKind.bits];omega
 rw [c ((i:Int)+j) ah ah];have:Af .u64 ((i:Int)+j) 1=(((i+j) / 2:Nat):Int):=by
  show ((i:Int)+j).fdiv (2 ^ 1)=_;rw [Int.fdiv_eq_ediv_of_nonneg _ ah];omega
 rw [this,gA ah ah]
theorem Tz (ps:List fG) (w a:Int) (hl:ps.length < 2 ^ 62) (v:Good ps) (hr:j6 w a=true) :
  Sq 319 [] [.sl 3 (pl ps),.I 0,.fn 320 [.bq [.I w],.bq [.I a]]] [] (.bT [.I (pos (w*8+a) ps),.bool (Kj (w*8+a) ps)]):=by
 refine bf 49 3 [.tmp 6,.tmp 7] mixed func319 ?_;refine s0 ?_;refine aM.vh (T:=Nat × Nat) [0,1,2,8] [224] (fun s=>[(9,.I s.1),(10,.I s.2)]) (fun s=>[])
  (fun s=>s.1<=s.2/\s.2<=ps.length/\(∀ k (h:k < ps.length),k < s.1->ps[k].key < w*8+a)/\∀ k (h:k < ps.length),s.2<=k->w*8+a<=ps[k].key) (fun s=>s.2-s.1) (0,ps.length) ?_ ?_ ?_
 ·exact ⟨by omega,by omega,by omega,by omega⟩
 ·simp only [go_sem,seval]<;>simp
 ·rintro ⟨i,j⟩ ⟨C,n,h3,h4⟩;refine s0 ?_;refine bF.fM (fun h=>?_) (fun h=>?_)
  ·have B:i < j:=ah
   have n:j<=ps.length:=n;obtain ⟨m,F⟩:=aQ ((i+j) / 2);have f:m < ps.length:=ah
   have p:=half (i:=i) (j:=j) ah;rw [<- F] at p;have x:=RE ps[m] 0 w a;have E:IntKind.wrap .i64 ((m:Int)+1)=((m+1:Nat):Int):=gN;have o:=IT (v.1 _ (ck f)).1 hr;have D:=qo.1 v.2;simp only [go_sem,seval,p,uG ps f];refine ⟨by omega,aD.bp x ?_⟩;refine s0 ?_;refine bF.fM (fun g=>?_) (fun g=>?_)
   ·refine sm E ?_;refine ⟨(m+1,j),⟨by show m+1<=j;omega,n,?_,h4⟩,?_,by show j-(m+1) < j-i;omega⟩
    ·intro k l e;have e:k < m+1:=e;have g:=o.1 g;rcases bZ k m with h | h
     ·have:=D k m l f h;omega
     ·obtain rfl:k=m:=ah
      exact g
    ·simp only [go_sem,seval]<;>simp
   ·refine sm E ?_;refine ⟨(i,m),⟨by show i<=m;omega,by show m<=_;omega,h3,?_⟩,?_,by show m-i < j-i;omega⟩
    ·intro k l e;have e:m<=k:=e;have g:w*8+a<=ps[m].key:=by
      rcases Int.lt_or_le ps[m].key (w*8+a) with h | h
      ·exact (g (o.2 h)).elim
      ·exact h
     rcases bZ m k with h | h
     ·have:=D m k f l h;omega
     ·obtain rfl:k=m:=ah
      exact g
    ·simp only [go_sem,seval]<;>simp
  ·have B:j<=i:=ah
   have C:i<=j:=C;obtain rfl:i=j:=ah
   have n:i<=ps.length:=n;have t:=Vv v.2 n (fun k l h=>h3 k l h) (fun k l h=>h4 k l h);have c:=P0 (K:=w*8+a) (ps:=ps);rw [<- t] at c |-;refine s0 ?_;refine dW.id ?_;rcases bZ i ps.length with hil | hge
   ·have y:decide ((i:Int) < (ps.length:Int))=true:=by simp;omega
    rw [fO hil] at c;have x:=RE ps[i] 0 w a;have A:=aer (v.1 _ (ck hil)).1 hr;simp only [go_sem,seval,y,uG ps hil];refine ⟨by omega,aD.bp x ?_⟩;refine s0 ?_;rw [c,lA];simp [A]
   ·have y:decide ((i:Int) < (ps.length:Int))=false:=by simp;omega
    rw [getElem?_eq_none hge] at c;exact fL (a2 y c)
theorem G4 (ps:List fG) (w a n:Int) (i:Nat) (c:ps.length < 2 ^ 30) (hi:i<=ps.length) :
  Sq 322 [.own 3 (pl ps),.own 3 [[.I w,.I a,.I n]]] [.ref 0,.I i,.ref 1] [.undef,.undef,.own 3 (pl (ps.take i++[⟨w,a,n⟩]++ps.drop i))] (.ref 2):=by
 rcases bZ i ps.length with h | h
 ·exact U3 ps ⟨w,a,n⟩ i c h
 ·obtain rfl:i=ps.length:=ah
  have:=U2 ps ⟨w,a,n⟩ c;rw [jr,nx,append_nil];exact this
def fP (ps:List fG) (w a u:Int):Int:=
 if mN ps=false then 14 else if (j6 w a&&decide (-1099511627776<=u)&&decide (u<=1099511627776))=false then 3 else
  if jH w a ps+u < 0 then 13 else if jH w a ps+u > 1099511627776 then 1 else 0
def eP (ps:List fG) (w a u:Int):List fG:=if fP ps w a u=0 then Ue w a (jH w a ps+u) ps else []
theorem Em {w a:Int}:∀ {ps:List fG},(∀ p∈ps,p.ok)->0<=jH w a ps/\jH w a ps<=1099511627776
 | [],_=>by simp [jH]
 | p :: r,h=>by
  have h1:=(h p (by simp)).2;have h2:=Em (w:=w) (a:=a) (ps:=r) fun q c=>h q (by simp [c]);simp only [jH];split<;>omega
theorem acr {ps:List fG} {i b:Nat} (h:i+b<=ps.length):(ps.take i++ps.drop (i+b)).length=ps.length-b:=by simp;omega
theorem Y3 {ps:List fG} {i b:Nat} (h:i<=ps.length):(ps.take i++ps.drop (i+b)).take i=ps.take i:=by
 have hl:(ps.take i).length=i:=by simp;omega
 rw [take_append_of_le_length ah,take_of_length_le ah]
theorem YZ {ps:List fG} {i b:Nat} (h:i<=ps.length):(ps.take i++ps.drop (i+b)).drop i=ps.drop (i+b):=by
 have hl:(ps.take i).length=i:=by simp;omega
 rw [drop_append_of_le_length ah,drop_eq_nil_of_le ah,nil_append]
theorem aeO {K:Int} {ps:List fG} (h:Kj K ps=true):pos K ps < ps.length:=by
 rw [P0] at h;split at h
 ·rename_i c;exact (fA.1 c).1
 ·cases h
theorem Ry (ps:List fG) (w a u:Int) (hl:ps.length < 2 ^ 29) :
  Sq 283 [] [.sl 3 (pl ps),.I w,.I a,.I u] [.own 3 (pl (eP ps w a u))] (.bT [.ref 0,.I (fP ps w a u)]):=by
 have E:=Gv ps ah;have hr:=Hs w a;have F:=V2 w a ps ah;refine bf 69 4 [.tmp 8,.tmp 9] mixed func283 ?_;refine sc aJ E ?_;cases f:mN ps
 ·have c:fP ps w a u=14:=by simp [fP,f]
  have e2:eP ps w a u=[]:=by simp [eP,c]
  simp only [f,go_sem,seval,c,e2];rfl
 have B:=jB.1 f;have hur:=Em (w:=w) (a:=a) B.1;simp only [f,go_sem,seval];refine aD.bp hr ?_;cases e:j6 w a
 ·have c:fP ps w a u=3:=by simp [fP,f,e]
  have e2:eP ps w a u=[]:=by simp [eP,c]
  refine sm (a2 c e2) ?_;rfl
 rcases Int.lt_or_le u (-1099511627776) with h1 | h1
 ·have c:fP ps w a u=3:=by simp [fP,f,e];omega
  have e2:eP ps w a u=[]:=by simp [eP,c]
  have k:decide (u < -1099511627776)=true:=by simpa using h1
  refine sm (a3 c e2 k) ?_;rfl
 have k:decide (u < -1099511627776)=false:=by simpa using h1
 rcases Int.lt_or_le 1099511627776 u with h2 | h2
 ·have c:fP ps w a u=3:=by simp [fP,f,e];omega
  have e2:eP ps w a u=[]:=by simp [eP,c]
  have o:decide (1099511627776 < u)=true:=by simpa using h2
  refine sm (a4 c e2 k o) ?_;rfl
 have o:decide (1099511627776 < u)=false:=by simpa using h2
 refine sc (a2 k o) F ?_;obtain ⟨n,D⟩:=aQ (jH w a ps+u);have y:IntKind.wrap .i64 (jH w a ps+u)=n:=by rw [gA ah ah,D]
 rcases Int.lt_or_le n 0 with h3 | h3
 ·have c:fP ps w a u=13:=by simp [fP,f,e];omega
  have e2:eP ps w a u=[]:=by simp [eP,c]
  have l:decide (n < 0)=true:=by simpa using h3
  refine sm (a4 y c e2 l) ?_;rfl
 have l:decide (n < 0)=false:=by simpa using h3
 rcases Int.lt_or_le 1099511627776 n with h4 | h4
 ·have c:fP ps w a u=1:=by simp [fP,f,e];omega
  have e2:eP ps w a u=[]:=by simp [eP,c]
  have p:decide (1099511627776 < n)=true:=by simpa using h4
  refine sm (a5 y c e2 l p) ?_;rfl
 have p:decide (1099511627776 < n)=false:=by simpa using h4
 have c:fP ps w a u=0:=by simp [fP,f,e];omega
 have e2:eP ps w a u=Ue w a n ps:=by simp [eP,c,D]
 refine sl (a3 y l p) (Tz ps w a ah B e) ?_;refine so aJ (AX ps ah) ?_;rw [c,e2,aa4];have g:=Vu (w*8+a) ps;obtain ⟨m,C⟩:=aQ (pos (w*8+a) ps);rw [<- C] at g |-;have A:IntKind.wrap .i64 ((m:Int)+1)=((m+1:Nat):Int):=gN;cases s:Kj (w*8+a) ps
 ·rcases Int.lt_or_le 0 n with h5 | h5
  ·have h:decide (0 < n)=true:=by simpa using h5
   refine sg [832,1072] h (G4 ps w a n m ah g) ?_;simp [h5]
  ·have h:decide (0 < n)=false:=by simpa using h5
   have j:¬ n > 0:=ah
   refine sm h ?_;simp [j]
 ·have t:=aeO s;rw [<- C] at t;have hpl:=acr (ps:=ps) (i:=m) (b:=1) ah;have x:=Y3 (ps:=ps) (i:=m) (b:=1) ah;have v:=YZ (ps:=ps) (i:=m) (b:=1) ah;refine sg [832] A (RP ps m (m+1) ah ah ah) ?_;rcases Int.lt_or_le 0 n with h5 | h5
  ·have h:decide (0 < n)=true:=by simpa using h5
   refine sg [928,1072] (a3 h x v) (G4 (ps.take m++ps.drop (m+1)) w a n m ah ah) ?_;simp [h5]
  ·have h:decide (0 < n)=false:=by simpa using h5
   have j:¬ n > 0:=ah
   refine sm h ?_;simp [j]
def within (a b c:Int):Bool:=decide (b<=a)&&decide (a<=c)
theorem fE (a b c:Int):Sq 175 [] [.I a,.I b,.I c] [] (.bool (within a b c)):=by
 refine Abs.Spec.apC (n:=15) (np:=3) (rs:=[.tmp 6]) mixed func175 rfl rfl rfl rfl rfl (by simp) (by simp) ?_;refine s0 ?_;refine bR.split (fun h=>?_) (fun h=>?_)<;>simp only [h,go_sem,seval]
 all_goals simp [within,h]
def ints (xs:List Int):List (List D):=xs.map fun x=>[.I x]
def bQ (x:Int):Bool:=decide (-4611686018427387904<=x)&&decide (x<=4611686018427387904)
def right (xs:List Int):Bool:=xs.all bQ
theorem aW (xs:List Int):(ints xs).length=xs.length:=by simp [ints]
theorem ints_at (xs:List Int) {i:Nat} (h:i < xs.length):(ints xs).getD i []=[.I xs[i]]:=by simp [ints,h]
theorem wrap64 {x:Int} (h:-9223372036854775808<=x) (h':x<=9223372036854775807):IntKind.wrap .i64 x=x:=by
 rw [IntKind.wrap_i64];omega
theorem bY (xs:List Int) (hl:xs.length < 2 ^ 62):Sq 129 [] [.sl 1 (ints xs)] [] (.bool (right xs)):=by
 refine Abs.Spec.apC (n:=18) (np:=1) (rs:=[.tmp 2]) mixed func129 rfl rfl rfl rfl rfl (by simp) (by simp) ?_;refine s0 ?_;refine ⟨Nat,fun i=>[(2,.bool false),(5,.sl 1 (ints xs)),(6,.I xs.length),(7,.I i)],fun i=>[],fun i=>i<=xs.length/\right (xs.take i)=true,fun i=>xs.length-i,0,?_,?_,?_⟩
 ·simp [right]
 ·simp only [go_sem,seval,aW]<;>simp
 ·rintro i ⟨hi,hr⟩;refine s0 ?_;refine bF.split (fun h=>?_) (fun h=>?_)
  ·have c:i < xs.length:=by simpa using h
   simp only [go_sem,seval,Int.toNat_natCast,ints_at xs c];refine ⟨by simp [aW,c],?_⟩;have bad:bQ xs[i]=false->false=right xs:=fun f=>by
    symm;simp only [right,all_eq_false];exact ⟨xs[i],ck c,by simp [f]⟩
   refine .ig (fun h=>?_) (fun h=>?_)<;>simp only [h,go_sem,seval]
   ·refine .split (fun e=>?_) (fun e=>?_)<;>simp only [e,go_sem,seval]
    ·exact bad (by simp [bQ] at e |-;omega)
    ·refine ⟨i+1,⟨c,?_⟩,?_,by simp only;omega⟩
     ·rw [right,l7 c,all_append];rw [right] at hr;rw [hr];simp [bQ] at h e |-;omega
     ·simp only [go_sem,seval,aW];rw [wrap64 ah ah];simp
   ·exact bad (by simp [bQ] at h |-;omega)
  ·refine s0 ?_;have:i=xs.length:=by simp at h;omega
   subst this;simpa using hr.symm
structure ay where
 a:Int
 b:Int
 c:Int
 d:Int
@[reducible] def ay.cells (x:ay):List D:=[.I x.a,.I x.b,.I x.c,.I x.d]
def ay.ok (x:ay):Bool:=within x.a 1 6&&within x.b 0 2&&within x.c 1 1073741824&&within x.d 0 10000
theorem qB (x:ay):Sq 222 [] [.agg x.cells] [] (.bool x.ok):=by
 refine Abs.Spec.apC (n:=21) (np:=1) (rs:=[.tmp 2]) mixed func222 rfl rfl rfl rfl rfl (by simp) (by simp) ?_;simp only [ay.cells];refine s0 ?_
 repeat' (with_reducible first
  | apply And.intro
  | refine aD.bp (fE _ _ _) ?_
  | refine bR.ig (fun h=>?_) (fun h=>?_)
  | refine bR.split (fun h=>?_) (fun h=>?_)
  | simp only [*,go_sem,seval])
 all_goals simp [ay.ok, *]
theorem nQ (x:ay):Sq 221 [] [.agg x.cells] [] (.I x.a):=by
 refine Abs.Spec.apC (n:=5) (np:=1) (rs:=[.tmp 2]) mixed func221 rfl rfl rfl rfl rfl (by simp) (by simp) ?_;simp only [ay.cells];exact gU
def gG {A:Type} (no:A->Int) (ok:A->Bool) (xs:List A) (i:Nat):Bool:=match xs[i]? with
 | some x=>ok x&&(match i with
  | 0=>true
  | j+1=>match xs[j]? with
   | some y=>decide (no y < no x)
   | none=>true)
 | none=>true
theorem nU {A:Type} (no:A->Int) (ok:A->Bool) (xs:List A) {i:Nat} (c:i < xs.length) (h:¬ 0 < i):gG no ok xs i=ok xs[i]:=by
 have:i=0:=ah
 subst this;simp [gG,c]
theorem nh {A:Type} (no:A->Int) (ok:A->Bool) (xs:List A) {i:Nat} (c:i < xs.length) (h:0 < i):gG no ok xs i=(ok xs[i]&&decide (no xs[i-1] < no xs[i])):=by
 obtain ⟨j,rfl⟩:∃ j,i=j+1:=⟨i-1,by omega⟩
 have:j < xs.length:=ah
 simp [gG,c,this]
def kr {A:Type} (no:A->Int) (ok:A->Bool) (xs:List A):Bool:=(range xs.length).all (gG no ok xs)
theorem aV {A:Type} {c:A->List D} (xs:List A) {i:Nat} (h:i < xs.length):(xs.map c).getD i []=c xs[i]:=by simp [h]
theorem wz (xs:List ay) (hl:xs.length < 2 ^ 62):Sq 220 [] [.sl 4 (xs.map ay.cells),.fn 221 [],.fn 222 []] [] (.bool (kr ay.a ay.ok xs)):=by
 refine Abs.Spec.apC (n:=38) (np:=3) (rs:=[.tmp 6]) mixed func220 rfl rfl rfl rfl rfl (by simp) (by simp) ?_;refine s0 ?_;refine ⟨Nat,fun i=>[(6,.bool false),(0,.sl 4 (xs.map ay.cells)),(1,.fn 221 []),(2,.fn 222 []),(9,.sl 4 (xs.map ay.cells)),(10,.I xs.length),(11,.I i)],fun i=>[],fun i=>i<=xs.length/\∀ j,j < i->gG ay.a ay.ok xs j=true,fun i=>xs.length-i,0,?_,?_,?_⟩
 ·simp
 ·simp only [go_sem,seval]<;>simp
 ·rintro i ⟨hi,hr⟩;refine s0 ?_;refine bF.split (fun h=>?_) (fun h=>?_)
  ·have e:i < xs.length:=by simpa using h
   have bad:gG ay.a ay.ok xs i=false->kr ay.a ay.ok xs=false:=fun k=>by
    simp only [kr,all_eq_false];exact ⟨i,mem_range.2 e,by simp [k]⟩
   simp only [go_sem,seval,Int.toNat_natCast,aV xs e,ay.cells];refine ⟨by simp [e],?_⟩;have next:gG ay.a ay.ok xs i=true->∀ j,j < i+1->gG ay.a ay.ok xs j=true:=fun k j m=>by
    rcases Nat.lt_succ_iff_lt_or_eq.1 m with h1 | rfl
    ·exact hr j h1
    ·exact k
   by_cases l:0 < i
   ·have s:IntKind.wrap .i64 ((i:Int)-1)=((i-1:Nat):Int):=by rw [wrap64 ah ah];omega
    have p:i-1 < xs.length:=ah
    have g:decide (0 < (i:Int))=true:=by simp;omega
    have o:=aV (c:=ay.cells) xs p;have f:=nh ay.a ay.ok xs e l
    repeat' (with_reducible first
     | apply And.intro
     | exact eZ.mk (by kernel_rfl)
     | exact vO.mk (by kernel_rfl)
     | refine aD.bp (qB _) ?_
     | refine aD.bp (nQ _) ?_
     | refine bR.ig (fun h=>?_) (fun h=>?_)
     | refine bR.split (fun h=>?_) (fun h=>?_)
     | refine bF.split (fun h=>?_) (fun h=>?_)
     | refine dW.id ?_
     | simp only [s,g,o,go_sem,seval, *,Int.toNat_natCast,ay.cells])
    ·simp;omega
    ·exact (bad (by rw [f];simp at h;simp;intro _;omega)).symm
    ·refine ⟨i+1,⟨e,next (by rw [f];simp at h;simp [*])⟩,?_,by simp only;omega⟩;refine s0 ?_;rw [wrap64 ah ah];simp
   ·have g:decide (0 < (i:Int))=false:=by simp;omega
    have f:=nU ay.a ay.ok xs e l
    repeat' (with_reducible first
     | apply And.intro
     | exact eZ.mk (by kernel_rfl)
     | exact vO.mk (by kernel_rfl)
     | refine aD.bp (qB _) ?_
     | refine aD.bp (nQ _) ?_
     | refine bR.ig (fun h=>?_) (fun h=>?_)
     | refine bR.split (fun h=>?_) (fun h=>?_)
     | refine bF.split (fun h=>?_) (fun h=>?_)
     | refine dW.id ?_
     | simp only [g,go_sem,seval, *,Int.toNat_natCast,ay.cells])
    ·refine ⟨i+1,⟨e,next (by rw [f];simp [*])⟩,?_,by simp only;omega⟩;refine s0 ?_;rw [wrap64 ah ah];simp
  ·refine s0 ?_;have:i=xs.length:=by simp at h;omega
   subst this;symm;simpa [kr] using hr
theorem Lv:Sq 215 [] [.nil,.fn 177 [],.fn 216 []] [] (.bool true):=by
 refine Abs.Spec.apC (n:=38) (np:=3) (rs:=[.tmp 6]) mixed func215 rfl rfl rfl rfl rfl (by simp) (by simp) ?_;refine s0 ?_;refine ⟨Unit,fun _=>[(6,.bool false),(10,.I 0),(11,.I 0)],fun _=>[],fun _=>True,fun _=>0,(),aJ,?_,?_⟩
 ·exact gU
 ·intro _ _;simp only [go_sem,seval,Int.lt_irrefl,decide_false]
theorem QC:Sq 217 [] [.nil,.fn 218 [],.fn 219 []] [] (.bool true):=by
 refine Abs.Spec.apC (n:=38) (np:=3) (rs:=[.tmp 6]) mixed func217 rfl rfl rfl rfl rfl (by simp) (by simp) ?_;refine s0 ?_;refine ⟨Unit,fun _=>[(6,.bool false),(10,.I 0),(11,.I 0)],fun _=>[],fun _=>True,fun _=>0,(),aJ,?_,?_⟩
 ·exact gU
 ·intro _ _;simp only [go_sem,seval,Int.lt_irrefl,decide_false]
theorem UF (xs:List ay) (c:xs.length < 2 ^ 62):Sq 113 [] [.agg [.nil,.nil,.sl 4 (xs.map ay.cells)]] [] (.I (if kr ay.a ay.ok xs then 0 else 14)):=by
 refine Abs.Spec.apC (n:=19) (np:=1) (rs:=[.tmp 2]) mixed func113 rfl rfl rfl rfl rfl (by simp) (by simp) ?_;refine s0 ?_
 repeat' (with_reducible first
  | apply And.intro
  | exact eZ.mk (by kernel_rfl)
  | exact vO.mk (by kernel_rfl)
  | refine aD.bp (wz _ c) ?_
  | refine aD.bp Lv ?_
  | refine aD.bp QC ?_
  | refine bR.ig (fun h=>?_) (fun h=>?_)
  | refine bR.split (fun h=>?_) (fun h=>?_)
  | refine bF.ig (fun h=>?_) (fun h=>?_)
  | refine bF.split (fun h=>?_) (fun h=>?_)
  | refine dW.id ?_
  | simp only [*,go_sem,seval])
 all_goals (simp at h;simp [h])
theorem acY (a k:Nat) (hk:k<=64):Af .u64 (a:Int) (k:Int)=((a / 2 ^ k:Nat):Int):=by
 unfold Af;have c:min (Int.toNat (k:Int)) (IntKind.bits .u64)=k:=by simp [IntKind.bits];omega
 rw [c,Int.fdiv_eq_ediv_of_nonneg _ (by exact_mod_cast Nat.zero_le _)];push_cast;rfl
theorem nV (a:Nat):Af .u64 (a:Int) 32=((a / 4294967296:Nat):Int):=acY a 32 ah
theorem aj7 (a:Nat):Af .u64 (a:Int) 16=((a / 65536:Nat):Int):=acY a 16 ah
theorem apG (a:Nat):Af .u64 (a:Int) 8=((a / 256:Nat):Int):=acY a 8 ah
def YA:ByteArray:=⟨((List.append (α:=UInt8) [0,1,2,2,3,3,3,3,4,4,4,4,4,4,4,4,5,5,5,5,5,5,5,5,5,5,5,5,5,5,5,5,6,6,6,6,6,6,6,6,6,6,6,6,6,6,6,6,6,6,6,6,6,6,6,6,6,6,6,6,6,6,6,6] [7,7,7,7,7,7,7,7,7,7,7,7,7,7,7,7,7,7,7,7,7,7,7,7,7,7,7,7,7,7,7,7,7,7,7,7,7,7,7,7,7,7,7,7,7,7,7,7,7,7,7,7,7,7,7,7,7,7,7,7,7,7,7,7]).append (List.append (α:=UInt8) [8,8,8,8,8,8,8,8,8,8,8,8,8,8,8,8,8,8,8,8,8,8,8,8,8,8,8,8,8,8,8,8,8,8,8,8,8,8,8,8,8,8,8,8,8,8,8,8,8,8,8,8,8,8,8,8,8,8,8,8,8,8,8,8] [8,8,8,8,8,8,8,8,8,8,8,8,8,8,8,8,8,8,8,8,8,8,8,8,8,8,8,8,8,8,8,8,8,8,8,8,8,8,8,8,8,8,8,8,8,8,8,8,8,8,8,8,8,8,8,8,8,8,8,8,8,8,8,8])).toArray⟩
theorem ap0:ByteArray.mk (((List.append (α:=UInt8) [0,1,2,2,3,3,3,3,4,4,4,4,4,4,4,4,5,5,5,5,5,5,5,5,5,5,5,5,5,5,5,5,6,6,6,6,6,6,6,6,6,6,6,6,6,6,6,6,6,6,6,6,6,6,6,6,6,6,6,6,6,6,6,6] [7,7,7,7,7,7,7,7,7,7,7,7,7,7,7,7,7,7,7,7,7,7,7,7,7,7,7,7,7,7,7,7,7,7,7,7,7,7,7,7,7,7,7,7,7,7,7,7,7,7,7,7,7,7,7,7,7,7,7,7,7,7,7,7]).append (List.append (α:=UInt8) [8,8,8,8,8,8,8,8,8,8,8,8,8,8,8,8,8,8,8,8,8,8,8,8,8,8,8,8,8,8,8,8,8,8,8,8,8,8,8,8,8,8,8,8,8,8,8,8,8,8,8,8,8,8,8,8,8,8,8,8,8,8,8,8] [8,8,8,8,8,8,8,8,8,8,8,8,8,8,8,8,8,8,8,8,8,8,8,8,8,8,8,8,8,8,8,8,8,8,8,8,8,8,8,8,8,8,8,8,8,8,8,8,8,8,8,8,8,8,8,8,8,8,8,8,8,8,8,8])).toArray)=YA:=rfl
def L8 (x:Nat):Nat:=((YA[x]?).map (·.toNat)).getD 0
def L16 (x:Nat):Nat:=if 256<=x then 8+L8 (x / 256) else L8 x
def L32 (x:Nat):Nat:=if 65536<=x then 16+L16 (x / 65536) else L16 x
def L64 (x:Nat):Nat:=if 4294967296<=x then 32+L32 (x / 4294967296) else L32 x
theorem ahP:(range 256).all (fun x=>decide (x < 2 ^ L8 x)&&(x==0||decide (2 ^ L8 x<=2*x))&&decide (L8 x<=8))=true:=bD
theorem agh (x:Nat) (h:x < 256):x < 2 ^ L8 x/\(0 < x->2 ^ L8 x<=2*x)/\L8 x<=8:=by
 have:=dn.1 ahP x (mem_range.2 h);simp only [cU,Bool.or_eq_true,bL,eH] at this;refine ⟨this.1.1,?_,this.2⟩;intro h0;rcases this.1.2 with h1 | h1
 ·omega
 ·exact h1
theorem aat (x:Nat) (h:x < 65536):x < 2 ^ L16 x/\(0 < x->2 ^ L16 x<=2*x)/\L16 x<=16:=by
 unfold L16;split
 ·obtain ⟨e,c,f⟩:=agh (x / 256) ah;have:=c ah;rw [Nat.pow_add];refine ⟨by omega,by omega,by omega⟩
 ·obtain ⟨e,c,f⟩:=agh x ah;exact ⟨e,c,by omega⟩
theorem aau (x:Nat) (h:x < 4294967296):x < 2 ^ L32 x/\(0 < x->2 ^ L32 x<=2*x)/\L32 x<=32:=by
 unfold L32;split
 ·obtain ⟨e,c,f⟩:=aat (x / 65536) ah;have:=c ah;rw [Nat.pow_add];refine ⟨by omega,by omega,by omega⟩
 ·obtain ⟨e,c,f⟩:=aat x ah;exact ⟨e,c,by omega⟩
theorem aaw (x:Nat) (h:x < 18446744073709551616):x < 2 ^ L64 x/\(0 < x->2 ^ L64 x<=2*x)/\L64 x<=64:=by
 unfold L64;split
 ·obtain ⟨e,c,f⟩:=aau (x / 4294967296) ah;have:=c ah;rw [Nat.pow_add];refine ⟨by omega,by omega,by omega⟩
 ·obtain ⟨e,c,f⟩:=aau x ah;exact ⟨e,c,by omega⟩
theorem u8w {x:Int} (h:0<=x) (h':x < 256):IntKind.wrap .u8 x=x:=by rw [IntKind.wrap_u8];omega
theorem w48:IntKind.wrap .i64 48=48:=by decide
theorem w56:IntKind.wrap .i64 56=56:=by decide
theorem w40:IntKind.wrap .i64 40=40:=by decide
theorem w16:IntKind.wrap .i64 16=16:=by decide
theorem w24:IntKind.wrap .i64 24=24:=by decide
theorem w8:IntKind.wrap .i64 8=8:=by decide
theorem l8D {i:Nat}:(((YA[i]?).map fun x=>(x.toNat:Int)).getD 0)=(L8 i:Int):=by
 unfold L8;cases YA[i]?<;>simp
theorem anx (i:Nat):L8 i<=255:=by
 unfold L8;cases YA[i]? with
 | none=>simp
 | some b=>simpa using Nat.le_of_lt_succ b.toNat_lt
theorem wL {c:Int} (h:0<=c/\c<=100) (i:Nat):IntKind.wrap .i64 (c+IntKind.wrap .i64 (L8 i:Int))=c+L8 i:=by
 have:=anx i;rw [wrap64 (x:=(L8 i:Int)) ah ah,wrap64 ah ah]
theorem YB:YA.size=256:=bD
set_option maxRecDepth 20000 in
theorem abY (x:Nat) (hx:x < 18446744073709551616):Sq 389 [] [.int .u64 x] [] (.I (L64 x)):=by
 refine Abs.Spec.apC (n:=25) (np:=1) (rs:=[.tmp 2]) mixed func389 rfl rfl rfl rfl rfl (by simp) (by simp) ?_;refine s0 ?_
 repeat' (with_reducible first
  | apply And.intro
  | refine bF.split (fun h=>?_) (fun h=>?_)
  | refine dW.id ?_
  | simp only [*,go_sem,seval,nV,aj7,apG,w48,w56,w40,w16,w24,w8,ap0])
 all_goals (simp only [bL,gM] at *)
 all_goals first
  | (rw [YB,u8w ah ah];omega)
  | skip
 all_goals (rw [u8w ah ah,Int.toNat_natCast,l8D])
 all_goals (simp only [L64,L32,L16])
 all_goals (repeat (rw [aq ah]))
 all_goals (repeat (rw [ak ah]))
 all_goals (repeat (rw [aq ah]))
 all_goals (repeat (rw [ak ah]))
 all_goals (repeat (rw [aq ah]))
 all_goals (rw [wL ah])
 all_goals omega
theorem aeX (x:Nat) (c:x < 18446744073709551616):Sq 378 [] [.int .u64 x] [] (.I ((64-L64 x:Nat):Int)):=by
 refine Abs.Spec.apC (n:=6) (np:=1) (rs:=[.tmp 2]) mixed func378 rfl rfl rfl rfl rfl (by simp) (by simp) ?_;refine sc aJ (abY x c) ?_;have:=(aaw x c).2.2;rw [wrap64 ah ah];omega
theorem oU (a:Nat):aeI .u64 (a:Int) 4294967295=((a%4294967296:Nat):Int):=by
 unfold aeI;rw [BitVec.toNat_and,BitVec.toNat_ofInt,BitVec.toNat_ofInt];simp only [IntKind.bits];have h:((4294967295:Int)%((2 ^ 64:Nat):Int)).toNat=2 ^ 32-1:=ah
 rw [h,Nat.and_two_pow_sub_one_eq_mod,IntKind.wrap_u64];omega
theorem Wo (a b:Nat):(a:Int).tdiv (b:Int)=((a / b:Nat):Int):=by rw [Int.tdiv_eq_ediv_of_nonneg ah];rfl
theorem aoS (a b:Nat):(a:Int).tmod (b:Int)=((a%b:Nat):Int):=by rw [Int.tmod_eq_emod_of_nonneg ah];rfl
set_option maxRecDepth 20000 in
theorem KV (x y:Nat) (l:x < 18446744073709551616) (m:y < 18446744073709551616):Sq 231 [] [.int .u64 x,.int .u64 y] [] (.bT [.int .u64 ((x*y / 18446744073709551616:Nat):Int),.int .u64 ((x*y%18446744073709551616:Nat):Int)]):=by
 obtain ⟨j,k,bw,c⟩:=Lib.mul64_hi x y l m;have ba:=Lib.half_mul_le (a:=x / 4294967296) (b:=y / 4294967296) ah ah;have bb:=Lib.half_mul_le (a:=x / 4294967296) (b:=y%4294967296) ah ah;have bc:=Lib.half_mul_le (a:=x%4294967296) (b:=y / 4294967296) ah ah;have e:x / 4294967296*(y / 4294967296) < 18446744073709551616:=ah
 have f:x / 4294967296*(y%4294967296) < 18446744073709551616:=ah
 have g:x%4294967296*(y / 4294967296) < 18446744073709551616:=ah
 have h:x / 4294967296*(y / 4294967296)+(x / 4294967296*(y%4294967296)+x%4294967296*(y%4294967296) / 4294967296) / 4294967296 < 18446744073709551616:=ah
 have i:x / 4294967296*(y / 4294967296)+(x / 4294967296*(y%4294967296)+x%4294967296*(y%4294967296) / 4294967296) / 4294967296+((x / 4294967296*(y%4294967296)+x%4294967296*(y%4294967296) / 4294967296)%4294967296+x%4294967296*(y / 4294967296)) / 4294967296 < 18446744073709551616:=ah
 refine Abs.Spec.apC (n:=51) (np:=2) (rs:=[.tmp 4,.tmp 5]) mixed func231 rfl rfl rfl rfl rfl (by simp) (by simp) ?_;simp only [oU,nV,go_sem,seval,Mul64.mulN,Mul64.addN,Mul64.wrapN _ j,Mul64.wrapN _ f,Mul64.wrapN _ k,Mul64.wrapN _ g,Mul64.wrapN _ bw,Mul64.wrapN _ e,Mul64.wrapN _ h,Mul64.wrapN _ i,Mul64.wrapM (x*y),c];exact Mul64.wrapN _ (c ▸ i)
theorem Zd {s:Nat} (hs:s<=64):2 ^ (64-s)*2 ^ s=18446744073709551616:=by
 rw [<- Nat.pow_add,show 64-s+s=64 by omega]
theorem aue (c lo y s:Nat) (m:s<=64) (k:c < y) (l:lo < 18446744073709551616) :
  lo / 2 ^ (64-s) < 2 ^ s/\c*2 ^ s+lo / 2 ^ (64-s) < y*2 ^ s/\(c*2 ^ s+lo / 2 ^ (64-s))*18446744073709551616+lo*2 ^ s%18446744073709551616=(c*18446744073709551616+lo)*2 ^ s:=by
 have e:=Zd m;have f:lo / 2 ^ (64-s) < 2 ^ s:=by
  rw [Nat.div_lt_iff_lt_mul (Nat.two_pow_pos _),Nat.mul_comm,e];exact l
 refine ⟨f,?_,?_⟩
 ·have g:(c+1)*2 ^ s<=y*2 ^ s:=l6 _ k;rw [Nat.add_mul,Nat.one_mul] at g;omega
 ·have h:lo*2 ^ s / 18446744073709551616=lo / 2 ^ (64-s):=by
   rw [<- e,Nat.mul_div_mul_right _ _ (Nat.two_pow_pos s)]
  have i:=Nat.div_add_mod (lo*2 ^ s) 18446744073709551616;rw [h] at i;have j:c*18446744073709551616*2 ^ s=c*2 ^ s*18446744073709551616:=by rw [Nat.mul_assoc,Nat.mul_comm 18446744073709551616,<- Nat.mul_assoc]
  rw [Nat.add_mul,Nat.add_mul,j];omega
structure Re (un d a b q r:Nat):Prop where
 sum:q*a+r=un
 small:r < 4294967296
 top:q<=4294967297
 least:(un*4294967296+d) / (a*4294967296+b)<=q
section
variable {un d a b q r:Nat}
theorem qv (q a b:Nat):q*(a*4294967296+b)=q*a*4294967296+q*b:=by rw [Nat.mul_add,Nat.mul_assoc]
theorem Re.start (ha:2147483648<=a) (ha':a < 4294967296) (hb:b < 4294967296) (hd:d < 4294967296) (hu:un < a*4294967296+b):Re un d a b (un / a) (un%a):=by
 have c:=Nat.div_add_mod un a;have hl:=Nat.mod_lt un (show 0 < a by omega);have e:un / a<=4294967297:=by
  apply Nat.le_of_lt_succ;rw [Nat.div_lt_iff_lt_mul ah];omega
 refine ⟨by rw [Nat.mul_comm];exact c,by omega,e,?_⟩;apply Nat.le_of_lt_succ;rw [Nat.div_lt_iff_lt_mul ah,Nat.succ_eq_add_one,qv,Nat.add_mul,Nat.one_mul];have:un / a*a=a*(un / a):=Nat.mul_comm _ _;omega
theorem Re.stop (h:Re un d a b q r) (hv:0 < a) (h1:q*b<=4294967296*r+d):q=(un*4294967296+d) / (a*4294967296+b):=by
 refine Nat.le_antisymm ?_ h.least;rw [Nat.le_div_iff_mul_le ah,qv];have:=h.sum;omega
theorem Re.step (h:Re un d a b q r) (hu:un < a*4294967296+b) (hd:d < 4294967296) (c:4294967296<=q\/4294967296*r+d < q*b) :
  0 < q/\(q-1)*a+(r+a)=un/\q-1<=4294967296/\(un*4294967296+d) / (a*4294967296+b)<=q-1:=by
 have g:0 < q:=by
  rcases c with c | c
  ·omega
  ·rcases Nat.eq_zero_or_pos q with e | e
   ·subst e;omega
   ·exact e
 obtain ⟨p,rfl⟩:∃ p,q=p+1:=⟨q-1,by omega⟩
 have i:=h.sum;rw [Nat.add_mul,Nat.one_mul] at i;have ht:=h.top;refine ⟨g,by simp only [Nat.add_sub_cancel];omega,by omega,?_⟩;simp only [Nat.add_sub_cancel];apply Nat.le_of_lt_succ;rw [Nat.div_lt_iff_lt_mul ah,Nat.succ_eq_add_one,qv];have f:(p+1)*a=p*a+a:=by rw [Nat.add_mul,Nat.one_mul]
 have e2:(p+1)*b=p*b+b:=by rw [Nat.add_mul,Nat.one_mul]
 rw [f];rcases c with c | c
 ·have:4294967296*b<=(p+1)*b:=l6 _ c;have h2:4294967296*a<=(p+1)*a:=l6 _ c;omega
 ·have:=h.small;omega
theorem Re.brk (hsum:q*a+r=un) (e:q<=4294967296) (c:(un*4294967296+d) / (a*4294967296+b)<=q) (hb:b < 4294967296) (hv:0 < a) (hr:4294967296<=r):q=(un*4294967296+d) / (a*4294967296+b):=by
 refine Nat.le_antisymm ?_ c;rw [Nat.le_div_iff_mul_le ah,qv];have h1:q*b<=4294967296*4294967296:=Nat.mul_le_mul e ah;omega
end
theorem two (N un W v:Nat) (hN:un*18446744073709551616+W=N) (hW:W < 18446744073709551616) (e:0 < v) (hu:un < v) :
  N / v=(un*4294967296+W / 4294967296) / v*4294967296+((un*4294967296+W / 4294967296)%v*4294967296+W%4294967296) / v /\
  N%v=((un*4294967296+W / 4294967296)%v*4294967296+W%4294967296)%v:=by
 have e1:=Nat.div_add_mod (un*4294967296+W / 4294967296) v;have c:N=((un*4294967296+W / 4294967296)%v*4294967296+W%4294967296)+v*((un*4294967296+W / 4294967296) / v*4294967296):=by
  rw [<- Nat.mul_assoc];omega
 constructor
 ·rw [c,Nat.add_mul_div_left _ _ e,Nat.add_comm]
 ·rw [c,Nat.add_mul_mod_self_left]
theorem aj6 (a k:Nat) (hk:k<=64):P3 .u64 (a:Int) (k:Int)=((a*2 ^ k%18446744073709551616:Nat):Int):=by
 unfold P3;have c:min (Int.toNat (k:Int)) (IntKind.bits .u64)=k:=by simp [IntKind.bits];omega
 rw [c,IntKind.wrap_u64,Int.natCast_emod,Int.natCast_mul,Int.natCast_pow];rfl
theorem orN (a b k:Nat) (f:b < 2 ^ k) (h:a*2 ^ k+b < 18446744073709551616):ior .u64 ((a*2 ^ k:Nat):Int) (b:Int)=((a*2 ^ k+b:Nat):Int):=by
 unfold ior;rw [BitVec.toNat_or,BitVec.toNat_ofInt,BitVec.toNat_ofInt];simp only [IntKind.bits];have c:(((a*2 ^ k:Nat):Int)%((2 ^ 64:Nat):Int)).toNat=a*2 ^ k:=ah
 have e:((b:Int)%((2 ^ 64:Nat):Int)).toNat=b:=ah
 rw [c,e,Nat.mul_comm a,<- Nat.two_pow_add_eq_or_of_lt f,Nat.mul_comm,IntKind.wrap_u64];omega
theorem aqj (a b X m:Int) (h:X+m=a+b) (c:0<=m) (e:m < 18446744073709551616):IntKind.wrap .u64 (IntKind.wrap .u64 (IntKind.wrap .u64 a+b)-IntKind.wrap .u64 X)=m:=by
 simp only [IntKind.wrap_u64];rw [Int.emod_add_emod,<- Int.sub_emod,<- h,show X+m-X=m by omega];exact Int.emod_eq_of_lt c e
theorem an2 (un w v q m:Nat) (f:q=(un*4294967296+w) / v) (e:m=(un*4294967296+w)%v) (hv:m < v) (hv2:v < 18446744073709551616):IntKind.wrap .u64 (IntKind.wrap .u64 (IntKind.wrap .u64 ((un:Int)*4294967296)+(w:Int))-IntKind.wrap .u64 ((q:Int)*(v:Int)))=(m:Int):=by
 have c:=Nat.div_add_mod (un*4294967296+w) v;rw [<- e,<- f,Nat.mul_comm v] at c;refine aqj _ _ _ _ ?_ (Int.natCast_nonneg _) ?_
 ·rw [Mul64.mulN];generalize q*v=x at c |-;omega
 ·omega
theorem ata (q c Q:Nat) (h:q*4294967296+c=Q) (hQ:Q < 18446744073709551616):IntKind.wrap .u64 (IntKind.wrap .u64 ((q:Int)*4294967296)+(c:Int))=(Q:Int):=by
 simp only [IntKind.wrap_u64];omega
set_option maxRecDepth 20000 in
set_option maxHeartbeats 1000000 in
theorem UI (f lo y:Nat) (hy:y < 18446744073709551616) (hh:f < y) (hl:lo < 18446744073709551616):Sq 351 [] [.int .u64 f,.int .u64 lo,.int .u64 y] [] (.bT [.int .u64 ((f*18446744073709551616+lo) / y:Nat),.int .u64 ((f*18446744073709551616+lo)%y:Nat)]):=by
 have P:((y:Int)==0)=false:=by simp;omega
 have Q:decide ((y:Int)<=f)=false:=by simp;omega
 refine Abs.Spec.apC (n:=135) (np:=3) (rs:=[.tmp 6,.tmp 7]) mixed func351 rfl rfl rfl rfl rfl (by simp) (by simp) ?_;simp only [oU,nV,go_sem,seval,P,Q];refine bF.split (fun h=>?_) (fun h=>?_)
 ·simp only [oU,nV,go_sem,seval,P,Q,h];have:f=0:=by simpa using h
  subst this;refine ⟨eZ.mk (by kernel_rfl),?_,?_,?_,?_⟩
  ·omega
  ·omega
  ·rw [Wo,Mul64.wrapN]
   ·simp
   ·exact Nat.lt_of_le_of_lt (Nat.div_le_self _ _) hl
  ·rw [aoS];simp
 ·obtain ⟨l1,U,l3⟩:=aaw y hy;have U:=U ah;obtain ⟨s,hs⟩:=aQ (64-L64 y);have i:s<=64:=ah
  have hp:2 ^ L64 y*2 ^ s=18446744073709551616:=by rw [<- Nat.pow_add,show L64 y+s=64 by omega]
  have D:y*2 ^ s < 18446744073709551616:=by rw [<- hp];exact Nat.mul_lt_mul_of_pos_right l1 (Nat.two_pow_pos s)
  have O:18446744073709551616<=2*(y*2 ^ s):=by rw [<- hp,<- Nat.mul_assoc];exact l6 _ U
  obtain ⟨p1,p2,p3⟩:=aue f lo y s i hh hl;obtain ⟨v,G⟩:=aQ (y*2 ^ s);obtain ⟨un,A⟩:=aQ (f*2 ^ s+lo / 2 ^ (64-s));obtain ⟨W,R⟩:=aQ (lo*2 ^ s%18446744073709551616);have J:v < 18446744073709551616:=by rw [G];exact D
  have hvg:18446744073709551616<=2*v:=by rw [G];exact O
  have F:un < v:=by rw [A,G];exact p2
  have hA:f*2 ^ s<=un:=by rw [A];exact Nat.le_add_right _ _
  have aa:W < 18446744073709551616:=by rw [R];exact Nat.mod_lt _ (by decide)
  have e1:IntKind.wrap .u64 ((64-L64 y:Nat):Int)=(s:Int):=by rw [<- hs,Mul64.wrapN _ ah]
  have e2:P3 .u64 (y:Int) (s:Int)=(v:Int):=by rw [aj6 _ _ i,G,Nat.mod_eq_of_lt D]
  have e3:IntKind.wrap .u64 (64-(s:Int))=((64-s:Nat):Int):=by rw [IntKind.wrap_u64];omega
  have e4:P3 .u64 (f:Int) (s:Int)=((f*2 ^ s:Nat):Int):=by rw [aj6 _ _ i,Nat.mod_eq_of_lt (Nat.lt_of_le_of_lt hA (Nat.lt_trans F J))]
  have e5:Af .u64 (lo:Int) ((64-s:Nat):Int)=((lo / 2 ^ (64-s):Nat):Int):=acY _ _ ah;have e6:ior .u64 ((f*2 ^ s:Nat):Int) ((lo / 2 ^ (64-s):Nat):Int)=(un:Int):=by rw [orN _ _ _ p1 (Nat.lt_trans p2 D),A]
  have e7:P3 .u64 (lo:Int) (s:Int)=(W:Int):=by rw [aj6 _ _ i,R]
  have I:v=v / 4294967296*4294967296+v%4294967296:=ah
  have e8:IntKind.wrap .u64 ((un / (v / 4294967296):Nat):Int)=((un / (v / 4294967296):Nat):Int):=Mul64.wrapN _ (Nat.lt_of_le_of_lt (Nat.div_le_self _ _) ah);have d1:Re un (W / 4294967296) (v / 4294967296) (v%4294967296) (un / (v / 4294967296)) (un%(v / 4294967296)):=Re.start ah ah ah ah ah;have e9:IntKind.wrap .u64 ((un:Int)-IntKind.wrap .u64 (((un / (v / 4294967296):Nat):Int)*((v / 4294967296:Nat):Int)))=((un%(v / 4294967296):Nat):Int):=by
   have:=d1.sum;rw [Mul64.mulN,Mul64.wrapN _ ah,IntKind.wrap_u64];omega
  simp only [oU,nV,go_sem,seval,P,Q,h];refine aD.bp (aeX y hy) ?_;simp only [oU,nV,go_sem,seval,P,Q,h,e1,e2,e3,e4,e5,e6,e7,Wo,e8,e9];repeat (refine And.intro ah ?_)
  have C:∀ x:Nat,(f*18446744073709551616+lo)*2 ^ s / v=x->x=(f*18446744073709551616+lo) / y:=fun x g=>by
   rw [<- g,G,Nat.mul_div_mul_right _ _ (Nat.two_pow_pos s)]
  have j:∀ x:Nat,(f*18446744073709551616+lo)*2 ^ s%v=x->x / 2 ^ s=(f*18446744073709551616+lo)%y:=fun x g=>by
   rw [<- g,G,Nat.mul_mod_mul_right,Nat.mul_div_cancel _ (Nat.two_pow_pos s)]
  obtain ⟨t1,t2⟩:=two ((f*18446744073709551616+lo)*2 ^ s) un W v (by rw [A,R];exact p3) aa ah F;have C:=C _ t1;have j:=j _ t2;have ad:∀ a:Nat,Af .u64 (a:Int) (s:Int)=((a / 2 ^ s:Nat):Int):=fun a=>acY a s i;clear p1 p2 p3 D O hp R A hA e1 e2 e3 e4 e5 e6 e7 l1 U l3 t1 t2 G hs;have e:0 < v / 4294967296:=ah
  obtain ⟨m,S⟩:=aQ ((un*4294967296+W / 4294967296)%v);have M:m < v:=by rw [S];exact Nat.mod_lt _ ah
  have k:m < v / 4294967296*4294967296+v%4294967296:=by rw [<- I];exact M
  obtain ⟨K,t⟩:=aQ ((un*4294967296+W / 4294967296) / v);rw [<- S,<- t] at C;rw [<- S] at j;have B:un < v / 4294967296*4294967296+v%4294967296:=by rw [<- I];exact F
  have l:=I.symm;refine RI (T:=Unit) (fun _=>[(2,.int .u64 v),(6,.int .u64 0),(7,.int .u64 0),(8,.int .u64 s),(9,.int .u64 (v / 4294967296:Nat)),(10,.int .u64 (v%4294967296:Nat)),(11,.int .u64 un),(13,.int .u64 (W / 4294967296:Nat)),(14,.int .u64 (W%4294967296:Nat)),(15,.int .u64 K)]) (fun _=>[]) (fun _=>True) (by rfl) ?_ ?_
  ·rintro ⟨⟩ -;have V:=an2 un (W / 4294967296) v K m t S M J;have X:IntKind.wrap .u64 ((m / (v / 4294967296):Nat):Int)=((m / (v / 4294967296):Nat):Int):=Mul64.wrapN _ (Nat.lt_of_le_of_lt (Nat.div_le_self _ _) ah);have d2:Re m (W%4294967296) (v / 4294967296) (v%4294967296) (m / (v / 4294967296)) (m%(v / 4294967296)):=Re.start ah ah ah ah k;have Y:IntKind.wrap .u64 ((m:Int)-IntKind.wrap .u64 (((m / (v / 4294967296):Nat):Int)*((v / 4294967296:Nat):Int)))=((m%(v / 4294967296):Nat):Int):=by
    have:=d2.sum;rw [Mul64.mulN,Mul64.wrapN _ ah,IntKind.wrap_u64];omega
   simp only [oU,nV,go_sem,seval,Wo,V,X,Y];repeat (refine And.intro ah ?_)
   refine RI (T:=Unit) (fun _=>[(2,.int .u64 v),(8,.int .u64 s),(14,.int .u64 (W%4294967296:Nat)),(15,.int .u64 K),(17,.int .u64 m),(18,.int .u64 ((m*4294967296+W%4294967296) / v:Nat))]) (fun _=>[]) (fun _=>True) (by rfl) ?_ ?_
   ·rintro ⟨⟩ -;simp only [oU,nV,go_sem,seval,Wo];have g1:IntKind.wrap .u64 (IntKind.wrap .u64 ((K:Int)*4294967296)+(((m*4294967296+W%4294967296) / v:Nat):Int))=(((f*18446744073709551616+lo) / y:Nat):Int):=by
     have hQ:(f*18446744073709551616+lo) / y < 18446744073709551616:=by
      rw [Nat.div_lt_iff_lt_mul ah];omega
     exact ata K _ _ C hQ
    have g2:=an2 m (W%4294967296) v ((m*4294967296+W%4294967296) / v) ((m*4294967296+W%4294967296)%v) rfl rfl (Nat.mod_lt _ ah) J;rw [g1,g2,ad,j];exact ⟨rfl,rfl⟩
   refine ⟨Nat × Nat,fun x=>[(2,.int .u64 v),(6,.int .u64 0),(7,.int .u64 0),(8,.int .u64 s),(9,.int .u64 (v / 4294967296:Nat)),(10,.int .u64 (v%4294967296:Nat)),(14,.int .u64 (W%4294967296:Nat)),(15,.int .u64 K),(17,.int .u64 m),(18,.int .u64 x.1),(16,.int .u64 x.2)],fun _=>[],fun x=>Re m (W%4294967296) (v / 4294967296) (v%4294967296) x.1 x.2,fun x=>x.1,(m / (v / 4294967296),m%(v / 4294967296)),d2,?_,?_⟩
   ·exact gU
   ·rintro ⟨q,r⟩ dg;simp only at dg;have ac:=dg.small;have ae:=dg.top;have N:=dg.sum;have Z:IntKind.wrap .u64 (4294967296*(r:Int))=((4294967296*r:Nat):Int):=by rw [IntKind.wrap_u64];omega
    have f2:IntKind.wrap .u64 (((4294967296*r:Nat):Int)+((W%4294967296:Nat):Int))=((4294967296*r+W%4294967296:Nat):Int):=by rw [IntKind.wrap_u64];omega
    have L:IntKind.wrap .u64 ((r:Int)+((v / 4294967296:Nat):Int))=((r+v / 4294967296:Nat):Int):=by rw [IntKind.wrap_u64];omega
    have step:(4294967296<=q\/4294967296*r+W%4294967296 < q*(v%4294967296))->IntKind.wrap .u64 ((q:Int)-1)=((q-1:Nat):Int):=fun g=>by
     have:=(dg.step k ah g).1;rw [IntKind.wrap_u64];omega
    simp only [oU,nV,go_sem,seval];refine bR.ig (fun p=>?_) (fun p=>?_)
    ·have ab:q < 4294967296:=by simp at p;omega
     have hb:q*(v%4294967296) < 18446744073709551616:=by
      have:=Nat.mul_le_mul (show q<=4294967295 by omega) (show v%4294967296<=4294967295 by omega);omega
     simp only [oU,nV,go_sem,seval,p,Z,f2,Mul64.mulN,Mul64.wrapN _ hb];refine bF.split (fun o=>?_) (fun o=>?_)
     ·have g:4294967296*r+W%4294967296 < q*(v%4294967296):=by rw [bL] at o;exact_mod_cast o
      obtain ⟨s1,s2,s3,s4⟩:=dg.step k ah (.inr g);simp only [go_sem,seval,step (.inr g),L];refine bF.split (fun hr=>?_) (fun hr=>?_)
      ·refine s0 ?_;have c:=Re.brk s2 s3 s4 ah e (by rw [bL] at hr;omega);rw [l] at c;refine ⟨(),aJ,?_⟩;exact fL c
      ·refine s0 ?_;refine ⟨(q-1,r+v / 4294967296),⟨s2,by rw [gM] at hr;omega,by omega,s4⟩,?_,by simp only;omega⟩;exact gU
     ·refine s0 ?_;have c:=dg.stop e (by rw [gM] at o;have E:=Int.not_lt.1 o;exact_mod_cast E);rw [l] at c;refine ⟨(),aJ,?_⟩;exact fL c
    ·have g:4294967296<=q:=by simp at p;omega
     obtain ⟨s1,s2,s3,s4⟩:=dg.step k ah (.inl g);simp only [oU,nV,go_sem,seval,p,step (.inl g),L];refine bF.split (fun hr=>?_) (fun hr=>?_)
     ·refine s0 ?_;have c:=Re.brk s2 s3 s4 ah e (by rw [bL] at hr;omega);rw [l] at c;refine ⟨(),aJ,?_⟩;exact fL c
     ·refine s0 ?_;refine ⟨(q-1,r+v / 4294967296),⟨s2,by rw [gM] at hr;omega,by omega,s4⟩,?_,by simp only;omega⟩;exact gU

  refine ⟨Nat × Nat,fun x=>[(2,.int .u64 v),(6,.int .u64 0),(7,.int .u64 0),(8,.int .u64 s),(9,.int .u64 (v / 4294967296:Nat)),(10,.int .u64 (v%4294967296:Nat)),(11,.int .u64 un),(13,.int .u64 (W / 4294967296:Nat)),(14,.int .u64 (W%4294967296:Nat)),(15,.int .u64 x.1),(16,.int .u64 x.2)],fun _=>[],fun x=>Re un (W / 4294967296) (v / 4294967296) (v%4294967296) x.1 x.2,fun x=>x.1,(un / (v / 4294967296),un%(v / 4294967296)),d1,?_,?_⟩
  ·exact gU
  ·rintro ⟨q,r⟩ dg;simp only at dg;have ac:=dg.small;have ae:=dg.top;have N:=dg.sum;have Z:IntKind.wrap .u64 (4294967296*(r:Int))=((4294967296*r:Nat):Int):=by rw [IntKind.wrap_u64];omega
   have f2:IntKind.wrap .u64 (((4294967296*r:Nat):Int)+((W / 4294967296:Nat):Int))=((4294967296*r+W / 4294967296:Nat):Int):=by rw [IntKind.wrap_u64];omega
   have L:IntKind.wrap .u64 ((r:Int)+((v / 4294967296:Nat):Int))=((r+v / 4294967296:Nat):Int):=by rw [IntKind.wrap_u64];omega
   have step:(4294967296<=q\/4294967296*r+W / 4294967296 < q*(v%4294967296))->IntKind.wrap .u64 ((q:Int)-1)=((q-1:Nat):Int):=fun g=>by
    have:=(dg.step B ah g).1;rw [IntKind.wrap_u64];omega
   simp only [oU,nV,go_sem,seval];refine bR.ig (fun p=>?_) (fun p=>?_)
   ·have ab:q < 4294967296:=by simp at p;omega
    have hb:q*(v%4294967296) < 18446744073709551616:=by
     have:=Nat.mul_le_mul (show q<=4294967295 by omega) (show v%4294967296<=4294967295 by omega);omega
    simp only [oU,nV,go_sem,seval,p,Z,f2,Mul64.mulN,Mul64.wrapN _ hb];refine bF.split (fun o=>?_) (fun o=>?_)
    ·have g:4294967296*r+W / 4294967296 < q*(v%4294967296):=by rw [bL] at o;exact_mod_cast o
     obtain ⟨s1,s2,s3,s4⟩:=dg.step B ah (.inr g);simp only [go_sem,seval,step (.inr g),L];refine bF.split (fun hr=>?_) (fun hr=>?_)
     ·refine s0 ?_;have c:=Re.brk s2 s3 s4 ah e (by rw [bL] at hr;omega);rw [l,<- t] at c;refine ⟨(),aJ,?_⟩;exact fL c
     ·refine s0 ?_;refine ⟨(q-1,r+v / 4294967296),⟨s2,by rw [gM] at hr;omega,by omega,s4⟩,?_,by simp only;omega⟩;exact gU
    ·refine s0 ?_;have c:=dg.stop e (by rw [gM] at o;have E:=Int.not_lt.1 o;exact_mod_cast E);rw [l,<- t] at c;refine ⟨(),aJ,?_⟩;exact fL c
   ·have g:4294967296<=q:=by simp at p;omega
    obtain ⟨s1,s2,s3,s4⟩:=dg.step B ah (.inl g);simp only [oU,nV,go_sem,seval,p,step (.inl g),L];refine bF.split (fun hr=>?_) (fun hr=>?_)
    ·refine s0 ?_;have c:=Re.brk s2 s3 s4 ah e (by rw [bL] at hr;omega);rw [l,<- t] at c;refine ⟨(),aJ,?_⟩;exact fL c
    ·refine s0 ?_;refine ⟨(q-1,r+v / 4294967296),⟨s2,by rw [gM] at hr;omega,by omega,s4⟩,?_,by simp only;omega⟩;exact gU
theorem aqd {a:Int}:∃ u:Nat,IntKind.wrap .u64 a=(u:Int)/\u < 18446744073709551616/\(u:Int)=a%18446744073709551616:=by
 refine ⟨(a%18446744073709551616).toNat,?_,?_,?_⟩
 ·rw [IntKind.wrap_u64];omega
 ·omega
 ·omega
theorem hi1 (x:Nat) (P:Int) (h:(x:Int)=P) (hP:-85070591730234615865843651857942052864<=P/\P<=85070591730234615865843651857942052864):IntKind.wrap .i64 ((x / 18446744073709551616:Nat):Int)=P / 18446744073709551616/\((x%18446744073709551616:Nat):Int)=P%18446744073709551616:=by
 rw [IntKind.wrap_i64];omega
theorem hi2 (x:Nat) (P b:Int) (h:(x:Int)=P+18446744073709551616*b) (hP:-85070591730234615865843651857942052864<=P/\P<=85070591730234615865843651857942052864):IntKind.wrap .i64 (IntKind.wrap .u64 (((x / 18446744073709551616:Nat):Int)-b%18446744073709551616))=P / 18446744073709551616/\((x%18446744073709551616:Nat):Int)=P%18446744073709551616:=by
 rw [IntKind.wrap_i64,IntKind.wrap_u64];omega
theorem Wx (x:Nat) (P a b:Int) (h:(x:Int)=P+18446744073709551616*a+18446744073709551616*b+18446744073709551616*18446744073709551616) (hP:-85070591730234615865843651857942052864<=P/\P<=85070591730234615865843651857942052864) :
  IntKind.wrap .i64 (IntKind.wrap .u64 (IntKind.wrap .u64 (((x / 18446744073709551616:Nat):Int)-b%18446744073709551616)-a%18446744073709551616))=P / 18446744073709551616/\((x%18446744073709551616:Nat):Int)=P%18446744073709551616:=by
 rw [IntKind.wrap_i64,IntKind.wrap_u64,IntKind.wrap_u64];omega
theorem ahj (a b:Int) (ha:-9223372036854775808<=a/\a<=9223372036854775807) (hb:-9223372036854775808<=b/\b<=9223372036854775807):-85070591730234615865843651857942052864<=a*b/\a*b<=85070591730234615865843651857942052864:=by
 have h1:(a*b).natAbs<=9223372036854775808*9223372036854775808:=by
  rw [Int.natAbs_mul];exact Nat.mul_le_mul ah ah
 omega
section
variable {a b:Int} {u w:Nat}
theorem ahi (hu:(u:Int)=a%18446744073709551616) (hw:(w:Int)=b%18446744073709551616) (ha:-9223372036854775808<=a/\a<=9223372036854775807) (hb:-9223372036854775808<=b/\b<=9223372036854775807) (h1:a < 0) (h2:b < 0) :
  ((u*w:Nat):Int)=a*b+18446744073709551616*a+18446744073709551616*b+18446744073709551616*18446744073709551616:=by
 have c:(u:Int)=a+18446744073709551616:=ah
 have e2:(w:Int)=b+18446744073709551616:=ah
 rw [Int.natCast_mul,c,e2,Int.add_mul,Int.mul_add,Int.mul_add,Int.mul_comm a 18446744073709551616,Int.add_assoc,Int.add_assoc,Int.add_assoc]
theorem ahh (hu:(u:Int)=a%18446744073709551616) (hw:(w:Int)=b%18446744073709551616) (ha:-9223372036854775808<=a/\a<=9223372036854775807) (hb:-9223372036854775808<=b/\b<=9223372036854775807) (h1:a < 0) (h2:¬ b < 0) :
  ((u*w:Nat):Int)=a*b+18446744073709551616*b:=by
 have c:(u:Int)=a+18446744073709551616:=ah
 have e2:(w:Int)=b:=ah
 rw [Int.natCast_mul,c,e2,Int.add_mul]
theorem acG (hu:(u:Int)=a%18446744073709551616) (hw:(w:Int)=b%18446744073709551616) (ha:-9223372036854775808<=a/\a<=9223372036854775807) (hb:-9223372036854775808<=b/\b<=9223372036854775807) (h1:¬ a < 0) (h2:b < 0) :
  ((u*w:Nat):Int)=a*b+18446744073709551616*a:=by
 have c:(u:Int)=a:=ah
 have e2:(w:Int)=b+18446744073709551616:=ah
 rw [Int.natCast_mul,c,e2,Int.mul_add,Int.mul_comm a 18446744073709551616]
theorem ahg (hu:(u:Int)=a%18446744073709551616) (hw:(w:Int)=b%18446744073709551616) (ha:-9223372036854775808<=a/\a<=9223372036854775807) (hb:-9223372036854775808<=b/\b<=9223372036854775807) (h1:¬ a < 0) (h2:¬ b < 0) :
  ((u*w:Nat):Int)=a*b:=by
 have c:(u:Int)=a:=ah
 have e2:(w:Int)=b:=ah
 rw [Int.natCast_mul,c,e2]
end
theorem lg (a b:Int) (f:-9223372036854775808<=a/\a<=9223372036854775807) (g:-9223372036854775808<=b/\b<=9223372036854775807):Sq 118 [] [.I a,.I b] [] (.agg [.I (a*b / 18446744073709551616),.int .u64 (a*b%18446744073709551616)]):=by
 obtain ⟨u,l,j,c⟩:=aqd (a:=a);obtain ⟨w,m,k,e⟩:=aqd (a:=b);refine Abs.Spec.apC (n:=31) (np:=2) (rs:=[.cell 4 190]) mixed func118 rfl rfl rfl rfl rfl (by simp) (by simp) ?_;refine sm (a2 l m) ?_
 repeat' (with_reducible first
  | apply And.intro
  | exact eZ.mk (by kernel_rfl)
  | exact vO.mk (by kernel_rfl)
  | refine aD.bp (KV _ _ j k) ?_
  | refine bF.split (fun h=>?_) (fun h=>?_)
  | refine dW.id ?_
  | simp only [*,go_sem,seval])
 all_goals (simp only [bL,gM] at *)
 all_goals (have i:=ahj a b f g)
 all_goals (clear l m)
 all_goals first
  | exact (Wx _ _ _ _ (ahi c e f g ‹_› ‹_›) i).1
  | exact (Wx _ _ _ _ (ahi c e f g ‹_› ‹_›) i).2
  | exact (hi2 _ _ _ (ahh c e f g ‹_› ‹_›) i).1
  | exact (hi2 _ _ _ (ahh c e f g ‹_› ‹_›) i).2
  | exact (hi2 _ _ _ (acG c e f g ‹_› ‹_›) i).1
  | exact (hi2 _ _ _ (acG c e f g ‹_› ‹_›) i).2
  | exact (hi1 _ _ (ahg c e f g ‹_› ‹_›) i).1
  | exact (hi1 _ _ (ahg c e f g ‹_› ‹_›) i).2
def Tk (P n:Int):Int:=if n<=0 then 0 else if bQ (P / n) then P / n else 0
def acM (P n:Int):Int:=if n<=0 then 0 else if bQ (P / n) then P%n else 0
def Tj (P n:Int):Int:=if n<=0 then 2 else if bQ (P / n) then 0 else 1
theorem ajU {P n:Int} (hn:0 < n) (h:bQ (P / n)=true):Tk P n=P / n/\acM P n=P%n/\Tj P n=0:=by
 simp [Tk,acM,Tj,h,show ¬ n<=0 by omega]
theorem afq {P n:Int} (hn:0 < n) (h:bQ (P / n)=false):Tk P n=0/\acM P n=0/\Tj P n=1:=by
 simp [Tk,acM,Tj,h,show ¬ n<=0 by omega]
theorem o8 (x:Int):right [x]=bQ x:=by simp [right]
theorem afr (P:Nat) (n:Int) (hn:0 < n/\n<=9223372036854775807) (hP:P < 170141183460469231731687303715884105728):Sq 349 [] [.agg [.I ((P / 18446744073709551616:Nat):Int),.int .u64 ((P%18446744073709551616:Nat):Int)],.I n] [] (.bT [.I (Tk P n),.I (acM P n),.I (Tj P n)]):=by
 obtain ⟨N,rfl⟩:∃ N:Nat,n=N:=⟨n.toNat,by omega⟩
 obtain ⟨H,C⟩:=aQ (P / 18446744073709551616);obtain ⟨L,D⟩:=aQ (P%18446744073709551616);have x:0 < N:=ah
 have p:H*18446744073709551616+L=P:=ah
 have s:L < 18446744073709551616:=ah
 have hHl:H < 9223372036854775808:=ah
 rw [<- C,<- D];obtain ⟨Q,m⟩:=aQ (P / N);obtain ⟨R,o⟩:=aQ (P%N);have f:(P:Int) / (N:Int)=(Q:Int):=by rw [m];rfl
 have g:(P:Int)%(N:Int)=(R:Int):=by rw [o];rfl
 have hRN:R < N:=by rw [o];exact Nat.mod_lt _ x
 have y:=UI H L N ah;rw [p,<- m,<- o] at y;have i:N<=H->18446744073709551616<=Q:=fun h=>by
  rw [m,Nat.le_div_iff_mul_le x];have:=Nat.mul_le_mul_left 18446744073709551616 h;omega
 have c1:decide ((N:Int)<=0)=false:=by simp;omega
 have c2:decide ((H:Int) < 0)=false:=by simp
 have c3:IntKind.wrap .u64 (H:Int)=H:=Mul64.wrapN _ ah;have c4:IntKind.wrap .u64 (N:Int)=N:=Mul64.wrapN _ ah;have e:=ajU (P:=P) (n:=N) ah;have c:=afq (P:=P) (n:=N) ah;rw [f] at e c;rw [g] at e;clear m o f g;refine Abs.Spec.apC (n:=59) (np:=2) (rs:=[.tmp 4,.tmp 5,.tmp 6]) mixed func349 rfl rfl rfl rfl rfl (by simp) (by simp) ?_;refine sm (a4 c1 c2 c3 c4) ?_
 repeat' (with_reducible first
  | apply And.intro
  | exact eZ.mk (by kernel_rfl)
  | exact vO.mk (by kernel_rfl)
  | simp only [go_sem,seval,c1,c2,c3,c4])
 refine bF.split (fun h=>?_) (fun h=>?_)
 ·refine s0 ?_;have h:=i (by rw [bL] at h;omega);obtain ⟨j,k,l⟩:=c (by simp [bQ];omega);rw [j,k,l];exact ⟨rfl,rfl,rfl⟩
 ·have t:H < N:=by rw [gM] at h;omega
  refine sc (a4 c1 c2 c3 c4) (y t s) ?_;refine bF.split (fun v=>?_) (fun v=>?_)
  ·refine s0 ?_;obtain ⟨j,k,l⟩:=c (by rw [bL] at v;simp [bQ];omega);rw [j,k,l];exact ⟨rfl,rfl,rfl⟩
  ·rw [gM] at v;have A:IntKind.wrap .i64 (Q:Int)=Q:=wrap64 ah ah;have B:IntKind.wrap .i64 (R:Int)=R:=wrap64 ah ah;refine sm (a2 A B) ?_;first | (refine ⟨by decide,?_⟩) | skip
   refine sl aJ (bY [(Q:Int)] (by simp)) ?_;have:right [(Q:Int)]=true:=by simp [right,bQ];omega
   refine sm this ?_;obtain ⟨j,k,l⟩:=e (by simp [bQ];omega);rw [j,k,l];exact ⟨rfl,rfl,rfl⟩
theorem ZE (a b c:Int) (g:0<=a/\a<=9223372036854775807) (h:0<=b/\b<=9223372036854775807) (i:0 < c/\c<=9223372036854775807):Sq 308 [] [.I a,.I b,.I c] [] (.bT [.I (Tk (a*b) c),.I (Tj (a*b) c)]):=by
 have hP:=ahj a b ah ah;have h0:0<=a*b:=Int.mul_nonneg g.1 h.1;obtain ⟨P,e⟩:∃ P:Nat,a*b=P:=⟨(a*b).toNat,by omega⟩
 have j:=afr P c i ah;have f:=lg a b ah ah;rw [e] at f |-;refine Abs.Spec.apC (n:=22) (np:=3) (rs:=[.tmp 6,.tmp 7]) mixed func308 rfl rfl rfl rfl rfl (by simp) (by simp) ?_;refine sc aJ f ?_;exact jW aJ j
def ay.P (x:ay) (u:Int):Int:=u*(10000-x.d)*x.c
def ay.fit (x:ay) (u:Int):Bool:=x.ok&&decide (0<=u)&&decide (u<=1099511627776)
def ay.V (x:ay) (u:Int):Int:=if x.fit u then Tk (x.P u) 10000 else 0
def ay.E (x:ay) (u:Int):Int:=if x.fit u then Tj (x.P u) 10000 else 3
theorem ON (x:ay):kr ay.a ay.ok [x]=x.ok:=by simp [kr,gG,range_succ]
theorem ay.ajD (x:ay):x.ok=true ↔ (1<=x.a/\x.a<=6)/\(0<=x.b/\x.b<=2)/\(1<=x.c/\x.c<=1073741824)/\(0<=x.d/\x.d<=10000):=by
 simp [ay.ok,within,and_assoc]
theorem L6 (x:ay) (u:Int):Sq 253 [] [.agg x.cells,.I u] [] (.bT [.I (x.V u),.I (x.E u)]):=by
 refine Abs.Spec.apC (n:=29) (np:=2) (rs:=[.tmp 4,.tmp 5]) mixed func253 rfl rfl rfl rfl rfl (by simp) (by simp) ?_;simp only [go_sem,seval,ay.cells];first | (refine ⟨by decide,?_⟩) | skip
 refine sl aJ (UF [x] (by simp)) ?_;cases f:x.ok
 ·have e:x.fit u=false:=by simp [ay.fit,f]
  have g:x.V u=0:=by simp [ay.V,e]
  have e2:x.E u=3:=by simp [ay.E,e]
  simp only [go_sem,seval,ON,f,g,e2,Int.reduceBNe]
 ·simp only [go_sem,seval,ON,f,Int.reduceBNe];refine bR.ig (fun h=>?_) (fun h=>?_)
  ·refine sm h ?_;refine bF.split (fun i=>?_) (fun i=>?_)
   ·have e:x.fit u=false:=by simp [ay.fit] at i |-;intros;omega
    have g:x.V u=0:=by simp [ay.V,e]
    have e2:x.E u=3:=by simp [ay.E,e]
    exact fL (a2 g e2)
   ·have e:x.fit u=true:=by simp [ay.fit,f] at h i |-;omega
    have g:x.V u=Tk (x.P u) 10000:=by simp [ay.V,e]
    have e2:x.E u=Tj (x.P u) 10000:=by simp [ay.E,e]
    have hk:=x.ajD.1 f;simp only [gM] at h i;have w1:IntKind.wrap .i64 (10000-x.d)=10000-x.d:=wrap64 ah ah;have hb:0<=u*(10000-x.d)/\u*(10000-x.d)<=10995116277760000:=by
     refine ⟨Int.mul_nonneg ah ah,?_⟩;exact Int.le_trans (Int.mul_le_mul (show u<=1099511627776 by omega) (show 10000-x.d<=10000 by omega) ah ah) (by decide)
    have k:IntKind.wrap .i64 (u*(10000-x.d))=u*(10000-x.d):=wrap64 ah ah;have j:=ZE (u*(10000-x.d)) x.c 10000 ah ah ah;refine sm (a2 w1 k) ?_;refine aD.bp j ?_;simp only [go_sem,seval,g,e2,ay.P]
  ·have e:x.fit u=false:=by simp [ay.fit] at h |-;intros;omega
   have g:x.V u=0:=by simp [ay.V,e]
   have e2:x.E u=3:=by simp [ay.E,e]
   exact fL (a3 h g e2)
theorem Wn (w a n:Int):∀ ps:List fG,(Ue w a n ps).length<=ps.length+1
 | []=>by simp only [Ue];split<;>simp
 | p :: r=>by
  have:=Wn w a n r;simp only [Ue];split
  ·simp;exact this
  ·split<;>split<;>simp<;>omega
theorem XR {ps:List fG} {w a u:Int} (h:fP ps w a u=0):Good ps/\j6 w a=true /\ -1099511627776<=u/\u<=1099511627776/\0<=jH w a ps+u/\jH w a ps+u<=1099511627776:=by
 unfold fP at h;split at h
 ·cases h
 ·rename_i e;have f:=jB.1 (by simpa using e);split at h
  ·cases h
  ·rename_i c;simp only [Bool.not_eq_false,cU,bL] at c;split at h
   ·cases h
   ·split at h
    ·cases h
    ·refine ⟨f,c.1.1,c.1.2,c.2,by omega,by omega⟩
structure au where
 no:Int
 state:Int
 need:Int
@[reducible] def au.cells (x:au):List D:=[.I x.no,.I x.state,.I x.need]
def au.ok (x:au):Bool:=within x.no 1 16&&within x.state 1 3&&bQ x.need&&decide (0<=x.need)
theorem mw (x:au):Sq 177 [] [.agg x.cells] [] (.I x.no):=by
 refine bf 5 1 [.tmp 2] mixed func177 ?_;simp only [au.cells];exact gU
theorem o7 (x:au):Sq 216 [] [.agg x.cells] [] (.bool x.ok):=by
 have i:=fE x.no 1 16;have j:=fE x.state 1 3;have h:=bY [x.need] (by simp);rw [o8] at h;simp only [au.cells];refine bf 22 1 [.tmp 2] mixed func216 ?_;refine sc aJ i ?_;cases c:within x.no 1 16
 ·have e:x.ok=false:=by simp [au.ok,c]
  exact fL e
 refine sc aJ j ?_;cases f:within x.state 1 3
 ·have e:x.ok=false:=by simp [au.ok,f]
  exact fL e
 refine sl aJ h ?_;cases g:bQ x.need
 ·have e:x.ok=false:=by simp [au.ok,g]
  exact fL e
 have e:x.ok=decide (0<=x.need):=by simp [au.ok,c,f,g]
 exact fL e
structure aC where
 no:Int
 cur:Int
 mult:Int
 add:Int
 set:Int
 aH:Int
 s0:Int
 s1:Int
 s2:Int
 s3:Int
 s4:Int
 s5:Int
@[reducible] def aC.cells (x:aC):List D:=[.I x.no,.I x.cur,.I x.mult,.I x.add,.I x.set,.I x.aH,.I x.s0,.I x.s1,.I x.s2,.I x.s3,.I x.s4,.I x.s5]
def aC.sh (x:aC):Nat->Int
 | 0=>x.s0 | 1=>x.s1 | 2=>x.s2 | 3=>x.s3 | 4=>x.s4 | _=>x.s5
def aC.WR (x:aC):Bool:=(range 6).all fun i=>within (x.sh i) (-1073741824) 1073741824
def aC.ok (x:aC):Bool:=x.WR&&within x.no 1 8&&within x.cur 0 2&&within x.mult 1 1024&&within x.add 0 1073741824&&within x.set 0 1073741824&&within x.aH 0 1073741824
theorem qa (x:aC):Sq 218 [] [.agg x.cells] [] (.I x.no):=by
 refine bf 5 1 [.tmp 2] mixed func218 ?_;simp only [aC.cells];exact gU
theorem sj (x:aC):Sq 219 [] [.agg x.cells] [] (.bool x.ok):=by
 have p:=fE x.no 1 8;have s:=fE x.cur 0 2;have t:=fE x.mult 1 1024;have v:=fE x.add 0 1073741824;have y:=fE x.set 0 1073741824;have A:=fE x.aH 0 1073741824;simp only [aC.cells];refine bf 42 1 [.tmp 2] mixed func219 ?_;refine s0 ?_;refine aM.count 6 [1,6] [32] (fun i=>[(7,.I i)]) (fun i=>[]) (fun i=>∀ j < i,within (x.sh j) (-1073741824) 1073741824=true) (by simp) ?_ ?_
 ·exact gU
 ·intro i hi f;refine s0 ?_;refine bF.fM (fun h=>?_) (fun h=>?_)
  ·have c:i < 6:=ah
   have k:(drop (i*1) [D.I x.s0,D.I x.s1,D.I x.s2,D.I x.s3,D.I x.s4,D.I x.s5]).headD .undef=.I (x.sh i):=by
    rcases i with _ | _ | _ | _ | _ | _ | i<;>first | rfl | omega
   have C:IntKind.wrap .i64 ((i:Int)+1)=((i+1:Nat):Int):=gN;have B:=fE (x.sh i) (-1073741824) 1073741824;refine sm k ?_;refine ⟨by omega,aD.bp B ?_⟩;cases g:within (x.sh i) (-1073741824) 1073741824
   ·have o:x.WR=false:=by
     cases l:x.WR
     ·rfl
     ·rw [aC.WR,dn] at l;rw [l i (mem_range.2 c)] at g;cases g
    have e2:x.ok=false:=by simp [aC.ok,o]
    exact fL e2
   ·refine sm C ?_;refine av.eS c ?_ ?_
    ·intro j m;rcases bZ j i with h | h
     ·exact f j h
     ·obtain rfl:j=i:=ah
      exact g
    ·exact gU
  ·obtain rfl:i=6:=ah
   have n:x.WR=true:=dn.2 fun j m=>f j (mem_range.1 m);have e:x.ok=(within x.no 1 8&&within x.cur 0 2&&within x.mult 1 1024&&within x.add 0 1073741824&&within x.set 0 1073741824&&within x.aH 0 1073741824):=by simp [aC.ok,n]
   rw [e];clear f e n;repeat' with_reducible first|apply And.intro|exact .dq|refine aD.bp (by assumption) ?_|refine aD.bp (p) ?_|refine aD.bp (s) ?_|refine aD.bp (t) ?_|refine aD.bp (v) ?_|refine aD.bp (y) ?_|refine aD.bp (A) ?_|refine pq (fun h=>?_) fun h=>?_|refine .id ?_|refine av.eS ah ?_ ?_|exact aJ|simp only [*,go_sem,seval]
   all_goals (simp_all;done)
theorem GD (xs:List au) (hl:xs.length < 2 ^ 62):Sq 215 [] [.sl 3 (xs.map au.cells),.fn 177 [],.fn 216 []] [] (.bool (kr au.no au.ok xs)):=by
 refine Abs.Spec.apC (n:=38) (np:=3) (rs:=[.tmp 6]) mixed func215 rfl rfl rfl rfl rfl (by simp) (by simp) ?_;refine s0 ?_;refine ⟨Nat,fun i=>[(6,.bool false),(0,.sl 3 (xs.map au.cells)),(1,.fn 177 []),(2,.fn 216 []),(9,.sl 3 (xs.map au.cells)),(10,.I xs.length),(11,.I i)],fun i=>[],fun i=>i<=xs.length/\∀ j,j < i->gG au.no au.ok xs j=true,fun i=>xs.length-i,0,?_,?_,?_⟩
 ·simp
 ·simp only [go_sem,seval]<;>simp
 ·rintro i ⟨hi,hr⟩;refine s0 ?_;refine bF.split (fun h=>?_) (fun h=>?_)
  ·have e:i < xs.length:=by simpa using h
   have bad:gG au.no au.ok xs i=false->kr au.no au.ok xs=false:=fun k=>by
    simp only [kr,all_eq_false];exact ⟨i,mem_range.2 e,by simp [k]⟩
   simp only [go_sem,seval,Int.toNat_natCast,aV xs e,au.cells];refine ⟨by simp [e],?_⟩;have next:gG au.no au.ok xs i=true->∀ j,j < i+1->gG au.no au.ok xs j=true:=fun k j m=>by
    rcases Nat.lt_succ_iff_lt_or_eq.1 m with h1 | rfl
    ·exact hr j h1
    ·exact k
   by_cases l:0 < i
   ·have s:IntKind.wrap .i64 ((i:Int)-1)=((i-1:Nat):Int):=by rw [wrap64 ah ah];omega
    have p:i-1 < xs.length:=ah
    have g:decide (0 < (i:Int))=true:=by simp;omega
    have o:=aV (c:=au.cells) xs p;have f:=nh au.no au.ok xs e l
    repeat' (with_reducible first
     | apply And.intro
     | exact eZ.mk (by kernel_rfl)
     | exact vO.mk (by kernel_rfl)
     | refine aD.bp (o7 _) ?_
     | refine aD.bp (mw _) ?_
     | refine bR.ig (fun h=>?_) (fun h=>?_)
     | refine bR.split (fun h=>?_) (fun h=>?_)
     | refine bF.split (fun h=>?_) (fun h=>?_)
     | refine dW.id ?_
     | simp only [s,g,o,go_sem,seval, *,Int.toNat_natCast,au.cells])
    ·simp;omega
    ·exact (bad (by rw [f];simp at h;simp;intro _;omega)).symm
    ·refine ⟨i+1,⟨e,next (by rw [f];simp at h;simp [*])⟩,?_,by simp only;omega⟩;refine s0 ?_;rw [wrap64 ah ah];simp
   ·have g:decide (0 < (i:Int))=false:=by simp;omega
    have f:=nU au.no au.ok xs e l
    repeat' (with_reducible first
     | apply And.intro
     | exact eZ.mk (by kernel_rfl)
     | exact vO.mk (by kernel_rfl)
     | refine aD.bp (o7 _) ?_
     | refine aD.bp (mw _) ?_
     | refine bR.ig (fun h=>?_) (fun h=>?_)
     | refine bR.split (fun h=>?_) (fun h=>?_)
     | refine bF.split (fun h=>?_) (fun h=>?_)
     | refine dW.id ?_
     | simp only [g,go_sem,seval, *,Int.toNat_natCast,au.cells])
    ·refine ⟨i+1,⟨e,next (by rw [f];simp [*])⟩,?_,by simp only;omega⟩;refine s0 ?_;rw [wrap64 ah ah];simp
  ·refine s0 ?_;have:i=xs.length:=by simp at h;omega
   subst this;symm;simpa [kr] using hr
theorem Lu (xs:List aC) (hl:xs.length < 2 ^ 62):Sq 217 [] [.sl 12 (xs.map aC.cells),.fn 218 [],.fn 219 []] [] (.bool (kr aC.no aC.ok xs)):=by
 refine Abs.Spec.apC (n:=38) (np:=3) (rs:=[.tmp 6]) mixed func217 rfl rfl rfl rfl rfl (by simp) (by simp) ?_;refine s0 ?_;refine ⟨Nat,fun i=>[(6,.bool false),(0,.sl 12 (xs.map aC.cells)),(1,.fn 218 []),(2,.fn 219 []),(9,.sl 12 (xs.map aC.cells)),(10,.I xs.length),(11,.I i)],fun i=>[],fun i=>i<=xs.length/\∀ j,j < i->gG aC.no aC.ok xs j=true,fun i=>xs.length-i,0,?_,?_,?_⟩
 ·simp
 ·simp only [go_sem,seval]<;>simp
 ·rintro i ⟨hi,hr⟩;refine s0 ?_;refine bF.split (fun h=>?_) (fun h=>?_)
  ·have e:i < xs.length:=by simpa using h
   have bad:gG aC.no aC.ok xs i=false->kr aC.no aC.ok xs=false:=fun k=>by
    simp only [kr,all_eq_false];exact ⟨i,mem_range.2 e,by simp [k]⟩
   simp only [go_sem,seval,Int.toNat_natCast,aV xs e,aC.cells];refine ⟨by simp [e],?_⟩;have next:gG aC.no aC.ok xs i=true->∀ j,j < i+1->gG aC.no aC.ok xs j=true:=fun k j m=>by
    rcases Nat.lt_succ_iff_lt_or_eq.1 m with h1 | rfl
    ·exact hr j h1
    ·exact k
   by_cases l:0 < i
   ·have s:IntKind.wrap .i64 ((i:Int)-1)=((i-1:Nat):Int):=by rw [wrap64 ah ah];omega
    have p:i-1 < xs.length:=ah
    have g:decide (0 < (i:Int))=true:=by simp;omega
    have o:=aV (c:=aC.cells) xs p;have f:=nh aC.no aC.ok xs e l
    repeat' (with_reducible first
     | apply And.intro
     | exact eZ.mk (by kernel_rfl)
     | exact vO.mk (by kernel_rfl)
     | refine aD.bp (sj _) ?_
     | refine aD.bp (qa _) ?_
     | refine bR.ig (fun h=>?_) (fun h=>?_)
     | refine bR.split (fun h=>?_) (fun h=>?_)
     | refine bF.split (fun h=>?_) (fun h=>?_)
     | refine dW.id ?_
     | simp only [s,g,o,go_sem,seval, *,Int.toNat_natCast,aC.cells])
    ·simp;omega
    ·exact (bad (by rw [f];simp at h;simp;intro _;omega)).symm
    ·refine ⟨i+1,⟨e,next (by rw [f];simp at h;simp [*])⟩,?_,by simp only;omega⟩;refine s0 ?_;rw [wrap64 ah ah];simp
   ·have g:decide (0 < (i:Int))=false:=by simp;omega
    have f:=nU aC.no aC.ok xs e l
    repeat' (with_reducible first
     | apply And.intro
     | exact eZ.mk (by kernel_rfl)
     | exact vO.mk (by kernel_rfl)
     | refine aD.bp (sj _) ?_
     | refine aD.bp (qa _) ?_
     | refine bR.ig (fun h=>?_) (fun h=>?_)
     | refine bR.split (fun h=>?_) (fun h=>?_)
     | refine bF.split (fun h=>?_) (fun h=>?_)
     | refine dW.id ?_
     | simp only [g,go_sem,seval, *,Int.toNat_natCast,aC.cells])
    ·refine ⟨i+1,⟨e,next (by rw [f];simp [*])⟩,?_,by simp only;omega⟩;refine s0 ?_;rw [wrap64 ah ah];simp
  ·refine s0 ?_;have:i=xs.length:=by simp at h;omega
   subst this;symm;simpa [kr] using hr
structure az where
 ms:List au
 ns:List aC
 xs:List ay
def az.cells (r:az):List D:=[.sl 3 (r.ms.map au.cells),.sl 12 (r.ns.map aC.cells),.sl 4 (r.xs.map ay.cells)]
def az.okB (r:az):Bool:=kr au.no au.ok r.ms&&kr aC.no aC.ok r.ns&&kr ay.a ay.ok r.xs
def az.small (r:az):Prop:=r.ms.length < 2 ^ 60/\r.ns.length < 2 ^ 60/\r.xs.length < 2 ^ 60
theorem dN (r:az) (k:r.small):Sq 113 [] [.agg r.cells] [] (.I (if r.okB then 0 else 14)):=by
 obtain ⟨l1,l2,l3⟩:=k;have h:=GD r.ms ah;have i:=Lu r.ns ah;have j:=wz r.xs ah;simp only [az.cells];refine bf 19 1 [.tmp 2] mixed func113 ?_;refine sc aJ h ?_;cases c:kr au.no au.ok r.ms
 ·have e:r.okB=false:=by simp [az.okB,c]
  simp only [go_sem,seval,e]<;>simp
 refine sc aJ i ?_;cases f:kr aC.no aC.ok r.ns
 ·have e:r.okB=false:=by simp [az.okB,f]
  simp only [go_sem,seval,e]<;>simp
 refine sc aJ j ?_;cases g:kr ay.a ay.ok r.xs
 ·have e:r.okB=false:=by simp [az.okB,g]
  simp only [go_sem,seval,e]<;>simp
 have e:r.okB=true:=by simp [az.okB,c,f,g]
 exact fL e
def iE {A:Type} (no:A->Int) (n:Int) (z:A):List A->A
 | []=>z
 | x :: r=>if no x=n then x else iE no n z r
def jt {A:Type} (no:A->Int) (n:Int):List A->Int
 | []=>-1
 | x :: r=>if no x=n then 0 else if jt no n r < 0 then -1 else jt no n r+1
theorem rH {A:Type} {no:A->Int} {n:Int} {z:A}:∀ {xs:List A} {i:Nat} (h:i < xs.length),(∀ j (e:j < xs.length),j < i->no xs[j]≠n)->no xs[i]=n->iE no n z xs=xs[i]/\jt no n xs=i
 | [],i,h,_,_=>by simp at h
 | x :: r,0,h,_,c=>by
  have c:no x=n:=c;simp [iE,jt,c]
 | x :: r,i+1,h,hn,c=>by
  have f:no x≠n:=hn 0 (by simp) ah;obtain ⟨g,k⟩:=rH (z:=z) (xs:=r) (i:=i) (by simpa using h) (fun j e hji=>hn (j+1) (by simpa using e) ah) c;simp only [iE,jt,ak f,k];refine ⟨g,?_⟩;rw [ak ah];omega
theorem oO {A:Type} {no:A->Int} {n:Int} {z:A}:∀ {xs:List A},(∀ j (c:j < xs.length),no xs[j]≠n)->iE no n z xs=z/\jt no n xs = -1
 | [],_=>by simp [iE,jt]
 | x :: r,hn=>by
  have e:no x≠n:=hn 0 (by simp);obtain ⟨f,g⟩:=oO (z:=z) (xs:=r) (fun j c=>hn (j+1) (by simpa using c));simp only [iE,jt,ak e,g];exact ⟨f,by simp⟩
theorem J2 (xs:List ay) (n:Int) (hl:xs.length < 2 ^ 62):Sq 307 [] [.sl 4 (xs.map ay.cells),.fn 221 [],.I n] [] (.bT [.agg (iE ay.a n ⟨0,0,0,0⟩ xs).cells,.I (jt ay.a n xs)]):=by
 refine bf 27 3 [.cell 6 169,.tmp 7] mixed func307 ?_;refine s0 ?_;refine aM.count xs.length [1,2,6,11,12] [112,208] (fun i=>[(13,.I i)]) (fun i=>[]) (fun i=>∀ j (g:j < xs.length),j < i->xs[j].a≠n) (by simp) ?_ ?_
 ·simp only [go_sem,seval]<;>simp
 ·intro i hi o;refine s0 ?_;refine bF.fM (fun h=>?_) (fun h=>?_)
  ·have f:i < xs.length:=ah
   have s:IntKind.wrap .i64 ((i:Int)+1)=((i+1:Nat):Int):=gN;have p:=aV (c:=ay.cells) xs f;have k:=nQ xs[i];simp only [ay.cells] at p k |-;refine sm p ?_;refine ⟨by omega,aD.bp k ?_⟩;refine s0 ?_;refine bF.split (fun e=>?_) (fun e=>?_)
   ·have e:xs[i].a=n:=by simpa using e
    obtain ⟨l,m⟩:=rH (z:=(⟨0,0,0,0⟩:ay)) f o e;rw [l,m];exact gU
   ·have e:xs[i].a≠n:=by simpa using e
    refine sm s ?_;refine av.eS f ?_ ?_
    ·intro j g hji;rcases bZ j i with h | h
     ·exact o j g h
     ·obtain rfl:j=i:=ah
      exact e
    ·exact gU
  ·obtain rfl:i=xs.length:=ah
   obtain ⟨l,m⟩:=oO (z:=(⟨0,0,0,0⟩:ay)) (fun j g=>o j g g);rw [l,m];simp only [go_sem,seval,ay.cells]
structure aP where
 kind:Int
 who:Int
 cur:Int
@[reducible] def aP.cells (x:aP):List D:=[.I x.kind,.I x.who,.I x.cur]
def owned (k:Int):Bool:=k==2||k==3
theorem Vn (k:Int):Sq 237 [] [.I k] [] (.bool (owned k)):=by
 refine bf 9 1 [.tmp 2] mixed func237 ?_;refine s0 ?_
 repeat' (with_reducible first
  | apply And.intro
  | exact eZ.mk (by kernel_rfl)
  | exact vO.mk (by kernel_rfl)
  | refine bR.ig (fun h=>?_) (fun h=>?_)
  | refine bR.split (fun h=>?_) (fun h=>?_)
  | refine bF.split (fun h=>?_) (fun h=>?_)
  | refine dW.id ?_
  | simp only [*,go_sem,seval])
 all_goals simp [owned, *]
def aP.right (x:aP):Bool:=if x.kind < 1\/6 < x.kind\/x.cur < 0\/3<=x.cur then false else if owned x.kind then decide (1<=x.who)&&decide (x.who<=16) else x.who==0
theorem gW (x:aP):Sq 128 [] [.agg x.cells] [] (.bool x.right):=by
 refine bf 37 1 [.tmp 2] mixed func128 ?_;simp only [aP.cells];refine s0 ?_
 repeat' (with_reducible first
  | apply And.intro
  | exact eZ.mk (by kernel_rfl)
  | exact vO.mk (by kernel_rfl)
  | refine aD.bp (Vn _) ?_
  | refine bR.ig (fun h=>?_) (fun h=>?_)
  | refine bR.split (fun h=>?_) (fun h=>?_)
  | refine bF.split (fun h=>?_) (fun h=>?_)
  | refine dW.id ?_
  | simp only [*,go_sem,seval])
 all_goals (simp only [bL,gM] at *)
 all_goals (unfold aP.right;simp [*])
def aP.floor (x:aP):Int:=if x.right&&(x.kind==3||x.kind==4) then 0 else -4611686018427387904
theorem wR (x:aP):Sq 143 [] [.agg x.cells] [] (.I x.floor):=by
 have hr:=gW x;simp only [aP.cells] at hr;refine bf 15 1 [.tmp 2] mixed func143 ?_;simp only [aP.cells];refine s0 ?_
 repeat' (with_reducible first
  | apply And.intro
  | exact eZ.mk (by kernel_rfl)
  | exact vO.mk (by kernel_rfl)
  | refine aD.bp hr ?_
  | refine bR.ig (fun h=>?_) (fun h=>?_)
  | refine bR.split (fun h=>?_) (fun h=>?_)
  | refine bF.split (fun h=>?_) (fun h=>?_)
  | refine dW.id ?_
  | simp only [*,go_sem,seval])
 all_goals (unfold aP.floor;simp [*])
def aP.less (x y:aP):Bool:=if x.kind≠y.kind then decide (x.kind < y.kind) else if x.who≠y.who then decide (x.who < y.who) else decide (x.cur < y.cur)
theorem tq (x y:aP):Sq 241 [] [.agg x.cells,.agg y.cells] [] (.bool (x.less y)):=by
 refine bf 32 2 [.tmp 4] mixed func241 ?_;simp only [aP.cells];refine s0 ?_
 repeat' (with_reducible first
  | apply And.intro
  | exact eZ.mk (by kernel_rfl)
  | exact vO.mk (by kernel_rfl)
  | exact aJ
  | refine bR.ig (fun h=>?_) (fun h=>?_)
  | refine bR.split (fun h=>?_) (fun h=>?_)
  | refine bF.split (fun h=>?_) (fun h=>?_)
  | refine dW.id ?_
  | simp only [*,go_sem,seval])
 all_goals (unfold aP.less;simp_all)
def aP.lt (x y:aP):Prop:=x.kind < y.kind\/x.kind=y.kind/\(x.who < y.who\/x.who=y.who/\x.cur < y.cur)
theorem Qe (x y:aP):x.less y=true ↔ x.lt y:=by
 unfold aP.less aP.lt;split
 ·simp only [bL];omega
 ·split
  ·simp only [bL];omega
  ·simp only [bL];omega
theorem abZ (x y:aP):x.less y=false ↔ ¬ x.lt y:=by rw [<- Qe];simp
theorem aeB (x:aP):(x.floor==0)=(x.right&&(x.kind==3||x.kind==4)):=by
 unfold aP.floor;split
 ·rename_i h;simp [h]
 ·rename_i h;simp at h;cases hr:x.right<;>simp [hr] at h |-;exact h
def aG:List Int->Int
 | []=>0
 | x :: r=>x+aG r
theorem uO (a:List Int) (x:Int):aG (a++[x])=aG a+x:=by
 induction a with
 | nil=>simp [aG]
 | cons y r ih=>simp only [cons_append,aG,ih];omega
theorem LW:∀ {l:List Int},right l=true -> -4611686018427387904*l.length<=aG l/\aG l<=4611686018427387904*l.length
 | [],_=>by simp [aG]
 | x :: r,h=>by
  simp only [right,all_cons,cU] at h;have h2:=LW (l:=r) h.2;have h1:-4611686018427387904<=x/\x<=4611686018427387904:=by simpa [bQ] using h.1
  simp only [aG,length_cons];push_cast;omega
theorem aaL (S n:Int):(S%18446744073709551616+n%18446744073709551616+0)%18446744073709551616=(S+n)%18446744073709551616:=ah
theorem ah3 (S n:Int) (h:-4611686018427387904<=n/\n<=4611686018427387904) (s:Int) (c:s=if 0<=n then 0 else 18446744073709551615) :
  ((S / 18446744073709551616)%18446744073709551616+s+(S%18446744073709551616+n%18446744073709551616+0) / 18446744073709551616)%18446744073709551616=((S+n) / 18446744073709551616)%18446744073709551616:=by
 subst c;split<;>omega
theorem Xg (n:Int) (h:-9223372036854775808<=n/\n<=9223372036854775807):IntKind.wrap .u64 (Af .i64 n 63)=if 0<=n then 0 else 18446744073709551615:=by
 have:Af .i64 n 63=n.fdiv (2 ^ 63):=rfl;rw [this,Int.fdiv_eq_ediv_of_nonneg _ ah,IntKind.wrap_u64];split<;>omega
theorem ud:Extern.find Tryz.f299=some add64Entry:=bD
theorem ue:Extern.findNext Tryz.f299=none:=bD
def n9 (l:List Int):Int:=if right l&&bQ (aG l) then aG l else 0
def nW (l:List Int):Int:=if right l then (if bQ (aG l) then 0 else 1) else 3
theorem K0 (S:Int) (h:-85070591730234615865843651857942052864<=S/\S<=85070591730234615865843651857942052864):Sq 303 [] [.int .u64 ((S / 18446744073709551616)%18446744073709551616),.int .u64 (S%18446744073709551616)] [] (.bT [.I (if bQ S then S else 0),.I (if bQ S then 0 else 1)]):=by
 obtain ⟨n,i⟩:=aQ (IntKind.wrap .i64 (S%18446744073709551616));have c:n=if S%18446744073709551616 < 9223372036854775808 then S%18446744073709551616 else S%18446744073709551616-18446744073709551616:=by
  rw [i,IntKind.wrap_i64];split<;>omega
 have j:=Xg n (by rw [c];split<;>omega);have hr:=bY [n] (by simp);rw [o8] at hr;refine bf 21 2 [.tmp 4,.tmp 5] mixed func303 ?_;by_cases hS:-9223372036854775808<=S/\S < 9223372036854775808
 ·have e:n=S:=by rw [c];split<;>omega
  have g:(S / 18446744073709551616%18446744073709551616 != if 0<=n then 0 else 18446744073709551615)=false:=by
   rw [bne_eq_false_iff_eq,e];split<;>omega
  simp only [go_sem,seval,<- i,j,g];refine sl aJ hr ?_;rw [e] at hr |-;cases f:bQ S
  ·simp only [go_sem,seval,f,nJ,if_false]
  ·simp only [go_sem,seval,f,if_true]
 ·have g:(S / 18446744073709551616%18446744073709551616 != if 0<=n then 0 else 18446744073709551615)=true:=by
   rw [bne_iff_ne,c];split<;>split<;>omega
  have f:bQ S=false:=by simp only [bQ,Bool.and_eq_false_iff,gM];omega
  simp only [go_sem,seval,<- i,j,g,f,nJ,if_false]
theorem gz (l:List Int) (hl:l.length < 2 ^ 60):Sq 236 [] [.sl 1 (ints l)] [] (.bT [.I (n9 l),.I (nW l)]):=by
 have hr:=bY l ah;refine bf 40 1 [.tmp 2,.tmp 3] mixed func236 ?_;refine sc aJ hr ?_;cases g:right l
 ·have p:n9 l=0:=by simp [n9,g]
  have e2:nW l=3:=by simp [nW,g]
  exact fL (a2 p e2)
 simp only [go_sem,seval,aW];refine aM.count l.length [12,13] [224] (fun i=>[(14,.I i),(4,.int .u64 ((aG (l.take i) / 18446744073709551616)%18446744073709551616)),(5,.int .u64 (aG (l.take i)%18446744073709551616))]) (fun i=>[]) (fun i=>True) trivial ?_ ?_
 ·simp only [go_sem,seval]<;>simp [aG]
 ·intro i hi _;refine s0 ?_;refine bF.fM (fun h=>?_) (fun h=>?_)
  ·have c:i < l.length:=ah
   have y:IntKind.wrap .i64 ((i:Int)+1)=((i+1:Nat):Int):=gN;have A:bQ l[i]=true:=dn.1 g _ (ck c);have o:-4611686018427387904<=l[i]/\l[i]<=4611686018427387904:=by simpa [bQ] using A
   obtain ⟨S,e⟩:=aQ (aG (l.take i));obtain ⟨n,s⟩:=aQ (l[i]);have f:aG (l.take (i+1))=S+n:=by rw [l7 c,uO,e,s]
   have x:IntKind.wrap .u64 n=n%18446744073709551616:=IntKind.wrap_u64 n;rw [<- s] at o;have t:=Xg n ah;simp only [go_sem,seval,ints_at l c,aW,<- s,<- e,x];refine ⟨by omega,?_⟩;refine aD.sem rfl ?_;with_reducible refine dH.Ns (k:=299) (fn:=Tryz.f299) (i:=S%18446744073709551616) (j:=n%18446744073709551616) (m:=0) ?_ func299 ?_ ?_ ue ud ?_ ?_ ?_ ?_ ?_ ?_ ?_ ?_ ?_
   iterate 11 (first | rfl | omega)
   refine sm t ?_;refine aD.sem rfl ?_;with_reducible refine dH.Ns (k:=299) (fn:=Tryz.f299) (i:=S / 18446744073709551616%18446744073709551616) (j:=if 0<=n then 0 else 18446744073709551615) (m:=(S%18446744073709551616+n%18446744073709551616+0) / 18446744073709551616) ?_ func299 ?_ ?_ ue ud ?_ ?_ ?_ ?_ ?_ ?_ ?_ ?_ ?_
   iterate 7 (first | rfl | omega)
   ·split<;>omega
   iterate 3 (first | rfl | omega)
   rw [ah3 S n o _ rfl,aaL];refine sm y ?_;refine av.eS c trivial ?_
   simp only [go_sem,seval,f]
  ·obtain rfl:i=l.length:=ah
   obtain ⟨S,e⟩:=aQ (aG l);have hSr:=LW g;have v:=K0 S (by rw [e];omega);have p:n9 l=if bQ S then S else 0:=by simp [n9,g,e]
   have e2:nW l=if bQ S then 0 else 1:=by simp [nW,g,e]
   rw [p,e2];simp only [go_sem,seval,jr,<- e];exact jW aJ v
theorem kU (r:az) (n:Int) (e:r.small):Sq 252 [] [.agg r.cells,.I n] [] (.bT [.agg (iE ay.a n ⟨0,0,0,0⟩ r.xs).cells,.bool (decide (0<=jt ay.a n r.xs))]):=by
 have c:=J2 r.xs n (by have:=e.2.2;omega);simp only [ay.cells] at c |-;simp only [az.cells,ay.cells];refine bf 18 2 [.cell 4 169,.tmp 5] mixed func252 ?_;exact jW aJ c
structure cq where
 kind:Int
 who:Int
 cur:Int
 sum:Int
@[reducible] def cq.cells (x:cq):List D:=[.I x.kind,.I x.who,.I x.cur,.I x.sum]
def cq.bz (x:cq):aP:=⟨x.kind,x.who,x.cur⟩
structure bE where
 last:Int
 bs:List cq
def bE.cells (l:bE):List D:=[.I l.last,.sl 4 (l.bs.map cq.cells)]
def WB (a:aP) (b:cq):Bool:=b.kind==a.kind&&(b.who==a.who&&b.cur==a.cur)
def jo (a:aP):List cq->Int
 | []=>0
 | b :: r=>if WB a b then b.sum else jo a r
theorem oT (l:bE) (a:aP) (hl:l.bs.length < 2 ^ 60):Sq 251 [] [.agg l.cells,.agg a.cells] [] (.I (jo a l.bs)):=by
 simp only [bE.cells,aP.cells];refine bf 21 2 [.tmp 4] mixed func251 ?_;refine s0 ?_;refine aM.count l.bs.length [3,8,9] [48,64,160] (fun i=>[(10,.I i)]) (fun i=>[]) (fun i=>jo a (l.bs.drop i)=jo a l.bs) (by simp) ?_ ?_
 ·simp only [go_sem,seval]<;>simp
 ·intro i hi e;refine s0 ?_;refine bF.fM (fun h=>?_) (fun h=>?_)
  ·have f:i < l.bs.length:=ah
   have k:IntKind.wrap .i64 ((i:Int)+1)=((i+1:Nat):Int):=gN;have j:=aV (c:=cq.cells) l.bs f;rw [drop_eq_getElem_cons f] at e;simp only [jo] at e;simp only [cq.cells] at j;refine sm j ?_;refine ⟨by omega,?_⟩;refine bF.split (fun g=>?_) (fun g=>?_)
   ·rw [aq (show WB a l.bs[i]=true from g)] at e;exact fL e
   ·rw [show WB a l.bs[i]=false from g] at e;simp only [nJ,if_false] at e;refine sm k ?_;refine av.eS f e ?_
    exact gU
  ·obtain rfl:i=l.bs.length:=ah
   simp only [nx,jo] at e;exact fL e
def mh (c:Int) (bs:List cq):List Int:=(bs.filter fun b=>b.cur==c).map cq.sum
theorem XU (c:Int) (bs:List cq) {i:Nat} (h:i < bs.length):mh c (bs.take (i+1))=if bs[i].cur==c then mh c (bs.take i)++[bs[i].sum] else mh c (bs.take i):=by
 simp only [mh];rw [l7 h,mK,jq];cases e:bs[i].cur==c<;>simp [filter,e]
theorem RH (c:Int) (bs:List cq):(mh c bs).length<=bs.length:=by
 simp only [mh,qn];exact length_filter_le _ _
theorem JI (x:Int):Sq 243 [] [.I x] [] (.bool true):=by
 refine bf 3 1 [.tmp 2] mixed func243 ?_;exact gU
theorem ZP (l:bE) (c:Int) (hl:l.bs.length < 2 ^ 30):Sq 242 [] [.agg l.cells,.I c,.fn 243 []] [.own 1 (ints (mh c l.bs))] (.ref 0):=by
 simp only [bE.cells];refine bf 36 3 [.tmp 6] mixed func242 ?_;refine s0 ?_;refine aM.count l.bs.length [1,2,11,12] [64,208] (fun i=>[(13,.I i),(7,.ref 544)]) (fun i=>[(544,.own 1 (ints (mh c (l.bs.take i))))]) (fun i=>True) trivial ?_ ?_
 ·simp only [go_sem,seval]<;>simp [mh,ints]
 ·intro i hi _;refine s0 ?_;refine bF.fM (fun h=>?_) (fun h=>?_)
  ·have e:i < l.bs.length:=ah
   have k:IntKind.wrap .i64 ((i:Int)+1)=((i+1:Nat):Int):=gN;have j:=aV (c:=cq.cells) l.bs e;have f:=XU c l.bs e;have hlen:=RH c (l.bs.take i);have hlt:(l.bs.take i).length<=l.bs.length:=by simp;omega
   simp only [cq.cells] at j;refine sm j ?_;refine ⟨by omega,?_⟩;cases g:l.bs[i].cur==c
   ·rw [g] at f;simp only [nJ,if_false] at f;refine sm k ?_;refine av.eS e trivial ?_
    exact fL f
   ·rw [g,aq rfl] at f;have m:=JI l.bs[i].kind;refine sc aJ m ?_;simp only [go_sem,seval,k,aW];refine ⟨by omega,av.eS e trivial ?_⟩;simp only [go_sem,seval,f]<;>simp [ints]
  ·obtain rfl:i=l.bs.length:=ah
   simp only [go_sem,seval,jr]
def qG (b:cq):Bool:=b.bz.right&&(bQ b.sum&&(b.sum != 0&&!decide (b.sum < b.bz.floor)))
def v8 (bs:List cq) (i:Nat):Bool:=
 match bs[i]? with
 | none=>true
 | some b=>qG b&&(match i with
  | 0=>true
  | j+1=>match bs[j]? with
   | some q=>q.bz.less b.bz
   | none=>true)
theorem rO {bs:List cq} (h:0 < bs.length):v8 bs 0=qG bs[0]:=by simp [v8,h]
theorem oS {bs:List cq} {j:Nat} (h:j+1 < bs.length):v8 bs (j+1)=(qG bs[j+1]&&(bs[j]'ah).bz.less bs[j+1].bz):=by
 have c:j < bs.length:=ah
 simp [v8,h,c]
def lE (bs:List cq):Bool:=(range bs.length).all (v8 bs)
theorem P9 {bs:List cq} {i:Nat} (h:i < bs.length) (c:v8 bs i=false):lE bs=false:=by
 cases e:lE bs
 ·rfl
 ·rw [dn.1 e i (mem_range.2 h)] at c;cases c
theorem Az {bs:List cq} (h:∀ i < bs.length,v8 bs i=true):lE bs=true:=dn.2 fun i c=>h i (mem_range.1 c)
def tu (bs:List cq) (c:Int):Bool:=nW (mh c bs)==0&&n9 (mh c bs)==0
def bE.okB (l:bE):Bool:=decide (0<=l.last)&&lE l.bs&&(tu l.bs 0&&tu l.bs 1&&tu l.bs 2)
theorem mu (l:bE) (S:l.bs.length < 2 ^ 30):Sq 141 [] [.agg l.cells] [] (.I (if l.okB then 0 else 14)):=by
 have f:=fun c=>ZP l c S;simp only [bE.cells] at f |-;refine bf 78 1 [.tmp 2] mixed func141 ?_;refine s0 ?_;rcases Int.lt_or_le l.last 0 with t | t
 ·have D:decide (l.last < 0)=true:=by simpa using t
  have e:l.okB=false:=by simp [bE.okB];omega
  simp only [go_sem,seval,D,e]<;>simp
 have D:decide (l.last < 0)=false:=by simpa using t
 refine sm D ?_;refine aM.count l.bs.length [1,12,13] [32,224] (fun i=>[(14,.I i)]) (fun i=>[]) (fun i=>∀ j < i,v8 l.bs j=true) (by simp) ?_ ?_
 ·simp only [go_sem,seval]<;>simp
 ·intro i hi J;refine s0 ?_;refine bF.fM (fun h=>?_) (fun h=>?_)
  ·have n:i < l.bs.length:=ah
   have K:IntKind.wrap .i64 ((i:Int)+1)=((i+1:Nat):Int):=gN;have G:=aV (c:=cq.cells) l.bs n;have O:=gW l.bs[i].bz;have E:Sq 129 [] [.sl 1 [[.I l.bs[i].sum]]] [] (.bool (right [l.bs[i].sum])):=bY [l.bs[i].sum] (by simp);have P:=wR l.bs[i].bz;rw [o8] at E;have e0:v8 l.bs i=true->∀ k < i+1,v8 l.bs k=true:=fun t k g=>by
    rcases bZ k i with h | h
    ·exact J k h
    ·obtain rfl:k=i:=ah
     exact t
   have s:v8 l.bs i=false->l.okB=false:=fun A=>by simp [bE.okB,P9 n A]
   simp only [cq.cells,aP.cells,cq.bz] at G O P;rcases Nat.eq_zero_or_pos i with rfl | hpos
   ·have g:=rO n;simp only [qG,cq.bz] at g;clear f;refine sm G ?_;repeat' with_reducible first|apply And.intro|exact .dq|refine aD.bp (by assumption) ?_|(refine aD.iT [] [] true (by simp) ?_;simp only [go_sem,seval];refine cY.gB E ?_)|refine pq (fun h=>?_) fun h=>?_|refine .id ?_|refine av.eS ah ?_ ?_|exact aJ|simp only [*,go_sem,seval]
    all_goals first
     | omega
     | rfl
     | (refine e0 ?_;clear e0 s;rw [g];clear g;simp [bne, *];done)
     | (rw [s ?_]
        ·rfl
        ·clear e0 s;rw [g];clear g;simp [bne, *];done)
   ·obtain ⟨j,rfl⟩:∃ j,i=j+1:=⟨i-1,by omega⟩
    have R:j < l.bs.length:=ah
    have hw1:IntKind.wrap .i64 (((j+1:Nat):Int)-1)=(j:Int):=gN;have g:=oS n;simp only [qG,cq.bz] at g;have x:=aV (c:=cq.cells) l.bs R;have Q:=tq l.bs[j].bz l.bs[j+1].bz;simp only [cq.cells,aP.cells,cq.bz] at x Q;clear f;refine sm G ?_;repeat' with_reducible first|apply And.intro|exact .dq|refine aD.bp (by assumption) ?_|(refine aD.iT [] [] true (by simp) ?_;simp only [go_sem,seval];refine cY.gB E ?_)|refine pq (fun h=>?_) fun h=>?_|refine .id ?_|refine av.eS ah ?_ ?_|exact aJ|simp only [*,go_sem,seval,x]
    all_goals first
     | omega
     | rfl
     | (refine e0 ?_;clear e0 s;rw [g];clear g;simp [bne, *];done)
     | (rw [s ?_]
        ·rfl
        ·clear e0 s;rw [g];clear g;simp [bne, *];done)
  ·obtain rfl:i=l.bs.length:=ah
   have T:=Az J;refine s0 ?_;refine aM.count 3 [1] [32] (fun i=>[(61,.I i)]) (fun i=>[]) (fun i=>∀ c < i,tu l.bs (c:Nat)=true) (by simp) ?_ ?_
   ·simp only [go_sem,seval]<;>simp
   ·intro c hc B;refine s0 ?_;refine bF.fM (fun h=>?_) (fun h=>?_)
    ·have F:c < 3:=ah
     have K:IntKind.wrap .i64 ((c:Int)+1)=((c+1:Nat):Int):=gN;have hlen:=RH c l.bs;have y:=gz (mh c l.bs) ah;have o:tu l.bs c=false->l.okB=false:=fun A=>by
      obtain rfl | rfl | rfl:c=0\/c=1\/c=2:=ah
      ·have:tu l.bs 0=false:=A;simp [bE.okB,this]
      ·have:tu l.bs 1=false:=A;simp [bE.okB,this]
      ·have:tu l.bs 2=false:=A;simp [bE.okB,this]
     refine so aJ (f c) ?_;refine sl aJ y ?_;cases v:nW (mh c l.bs)==0
     ·have e:l.okB=false:=o (by simp [tu,v]);have m:(nW (mh c l.bs) != 0)=true:=by simp [bne,v]
      simp only [go_sem,seval,m,e]<;>simp
     have m:(nW (mh c l.bs) != 0)=false:=by simp [bne,v]
     cases C:n9 (mh c l.bs)==0
     ·have e:l.okB=false:=o (by simp [tu,v,C]);have p:(n9 (mh c l.bs) != 0)=true:=by simp [bne,C]
      simp only [go_sem,seval,m,p,e]<;>simp
     have p:(n9 (mh c l.bs) != 0)=false:=by simp [bne,C]
     refine sm (a3 m p K) ?_;refine av.eS F ?_ ?_
     ·intro k g;rcases bZ k c with h | h
      ·exact B k h
      ·obtain rfl:k=c:=ah
       simp [tu,v,C]
     ·exact gU
    ·obtain rfl:c=3:=ah
     have L:tu l.bs 0=true:=B 0 ah;have M:tu l.bs 1=true:=B 1 ah;have N:tu l.bs 2=true:=B 2 ah;have e:l.okB=true:=by simp [bE.okB,T,L,M,N,t]
     simp only [go_sem,seval,e]<;>simp
def Jt (r:az) (x:fG):ay:=iE ay.a x.fq ⟨0,0,0,0⟩ r.xs
def UW (r:az) (w c:Int) (x:fG):Bool:=decide (0<=jt ay.a x.fq r.xs)&&(x.who==w&&(Jt r x).b==c)
def nY (r:az) (w c:Int) (ps:List fG):List Int:=(ps.filter (UW r w c)).map fun x=>(Jt r x).V x.units
def l9 (r:az) (w c:Int):List fG->Int
 | []=>0
 | x :: l=>if UW r w c x&&(Jt r x).E x.units != 0 then (Jt r x).E x.units else l9 r w c l
theorem V4 (r:az) (w c:Int) (ps:List fG) {i:Nat} (h:i < ps.length):nY r w c (ps.take (i+1))=if UW r w c ps[i] then nY r w c (ps.take i)++[(Jt r ps[i]).V ps[i].units] else nY r w c (ps.take i):=by
 simp only [nY];rw [l7 h,mK,jq];cases e:UW r w c ps[i]<;>simp [filter,e]
theorem O7 (r:az) (w c:Int) (ps:List fG):(nY r w c ps).length<=ps.length:=by
 simp only [nY,qn];exact length_filter_le _ _
def AW (l:bE) (r:az) (ps:List fG):Int:=if l.okB&&r.okB&&mN ps then 0 else 14
def Qk (l:bE) (r:az) (ps:List fG) (w c:Int):Int:=
 if AW l r ps != 0 then AW l r ps else if l9 r w c ps != 0 then l9 r w c ps else nW (jo ⟨2,w,c⟩ l.bs :: nY r w c ps)
def I3 (l:bE) (r:az) (ps:List fG) (w c:Int):Int:=
 if AW l r ps != 0 then 0 else if l9 r w c ps != 0 then 0 else n9 (jo ⟨2,w,c⟩ l.bs :: nY r w c ps)
theorem ae9 (l:bE) (r:az) (ps:List fG) (w c:Int) (Q:l.bs.length < 2 ^ 30) (hr:r.small) (hp:ps.length < 2 ^ 30) :
  Sq 157 [] [.agg l.cells,.agg r.cells,.sl 3 (pl ps),.I w,.I c] [] (.bT [.I (I3 l r ps w c),.I (Qk l r ps w c)]):=by
 have A:=mu l Q;have B:=dN r hr;have N:=Gv ps ah;have C:=oT l ⟨2,w,c⟩ ah;have D:=fun n=>kU r n hr;simp only [bE.cells,aP.cells] at A C |-;simp only [az.cells] at B D |-;refine bf 85 5 [.tmp 10,.tmp 11] mixed func157 ?_;refine sc aJ A ?_;cases K:l.okB
 ·have e:AW l r ps=14:=by simp [AW,K]
  have k:Qk l r ps w c=14:=by simp [Qk,e]
  have e2:I3 l r ps w c=0:=by simp [I3,e]
  exact fL (a2 k e2)
 refine sc aJ B ?_;cases L:r.okB
 ·have e:AW l r ps=14:=by simp [AW,L]
  have k:Qk l r ps w c=14:=by simp [Qk,e]
  have e2:I3 l r ps w c=0:=by simp [I3,e]
  exact fL (a2 k e2)
 refine sc aJ N ?_;cases M:mN ps
 ·have e:AW l r ps=14:=by simp [AW,M]
  have k:Qk l r ps w c=14:=by simp [Qk,e]
  have e2:I3 l r ps w c=0:=by simp [I3,e]
  exact fL (a2 k e2)
 have e:AW l r ps=0:=by simp [AW,K,L,M]
 have k:Qk l r ps w c=if l9 r w c ps != 0 then l9 r w c ps else nW (jo ⟨2,w,c⟩ l.bs :: nY r w c ps):=by simp [Qk,e]
 have e2:I3 l r ps w c=if l9 r w c ps != 0 then 0 else n9 (jo ⟨2,w,c⟩ l.bs :: nY r w c ps):=by simp [I3,e]
 rw [k,e2];clear k e2 e;refine s0 ?_;refine aD.bp C ?_;obtain ⟨o,R⟩:=aQ (jo ⟨2,w,c⟩ l.bs);rw [<- R];refine s0 ?_;refine aM.count ps.length [3,4,6,39,40] [112] (fun i=>[(41,.I i),(13,.ref 1280)]) (fun i=>[(1280,.own 1 (ints (o :: nY r w c (ps.take i))))]) (fun i=>l9 r w c (ps.drop i)=l9 r w c ps) (by simp) ?_ ?_
 ·simp only [go_sem,seval]<;>simp [nY,ints]
 ·intro i hi g;refine s0 ?_;refine bF.fM (fun h=>?_) (fun h=>?_)
  ·have j:i < ps.length:=ah
   have v:IntKind.wrap .i64 ((i:Int)+1)=((i+1:Nat):Int):=gN;have f:=V4 r w c ps j;have F:=D ps[i].fq;have hvl:=O7 r w c (ps.take i);have htl:(ps.take i).length<=ps.length:=by simp;omega
   rw [Wt j] at g;simp only [l9] at g;obtain ⟨a,G⟩:=aQ (Jt r ps[i]);have J:iE ay.a ps[i].fq ⟨0,0,0,0⟩ r.xs=a:=G.symm;rw [J] at F;rw [<- G] at g f;have t:UW r w c ps[i]=(decide (0<=jt ay.a ps[i].fq r.xs)&&(ps[i].who==w&&a.b==c)):=by rw [G];rfl
   have O:=L6 a ps[i].units;simp only [ay.cells] at F O;clear A B N C D;simp only [go_sem,seval,uG ps j];refine ⟨by omega,aD.bp F ?_⟩;cases m:decide (0<=jt ay.a ps[i].fq r.xs)
   ·rw [t,m] at g f;simp only [gV,nJ,if_false] at g f;refine sm (a2 m v) ?_;refine av.eS j g ?_
    simp only [go_sem,seval,f]
   cases s:ps[i].who==w
   ·rw [t,m,s] at g f;simp only [gV,fc,nJ,if_false] at g f;simp only [go_sem,seval,m,bne,s,v];refine av.eS j g ?_
    simp only [go_sem,seval,f]
   cases x:a.b==c
   ·rw [t,m,s,x] at g f;simp only [gV,fc,nJ,if_false] at g f;simp only [go_sem,seval,m,bne,s,x,v];refine av.eS j g ?_
    simp only [go_sem,seval,f]
   rw [t,m,s,x] at g f;simp only [fc,Bool.and_self,if_true] at g f;simp only [go_sem,seval,m,bne,s,x];refine aD.bp O ?_;cases y:a.E ps[i].units==0
   ·have p:(a.E ps[i].units != 0)=true:=by simp [bne,y]
    rw [p,aq rfl] at g;have P:l9 r w c ps=a.E ps[i].units:=g.symm;simp only [go_sem,seval,bne,y,P,Bool.not_false,if_true]
   ·have p:(a.E ps[i].units != 0)=false:=by simp [bne,y]
    rw [p] at g;simp only [nJ,if_false] at g;simp only [go_sem,seval,bne,y,v,aW];refine ⟨by omega,av.eS j g ?_⟩;simp only [go_sem,seval,f]<;>simp [ints]
  ·obtain rfl:i=ps.length:=ah
   simp only [nx,l9] at g;have hlen:=O7 r w c ps;have S:=gz (o :: nY r w c ps) (by simp;omega);rw [<- g];simp only [go_sem,seval,jr];refine aD.iT [] [] true (by simp) ?_;refine s0 ?_;refine cY.gB S ?_;simp only [go_sem,seval]<;>simp
def aoj (r:az) (w c:Int) (x:fG):Int:=if UW r w c x then (Jt r x).V x.units else 0
def afN (r:az) (w c:Int):List fG->Int
 | []=>0
 | x :: l=>aoj r w c x+afN r w c l
theorem Xl (r:az) (w c:Int):∀ ps:List fG,aG (nY r w c ps)=afN r w c ps
 | []=>rfl
 | x :: l=>by
  have e:=Xl r w c l;simp only [nY] at e;simp only [afN,aoj,nY,filter];cases hb:UW r w c x
  ·simp only [nJ,if_false,e];omega
  ·simp only [map_cons,aG,if_true,e]
end Go.Proofs.YtccipdjjkcejgaaGreat
