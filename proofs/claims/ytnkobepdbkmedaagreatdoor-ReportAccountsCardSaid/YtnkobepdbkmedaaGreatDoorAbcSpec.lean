/- What a call gives, and what its caller knows then. No theorem of a claim. -/
import Derived.Test.YtnkobepdbkmedaaGreatDoorAbcCall
set_option linter.unusedSimpArgs false
set_option linter.unusedVariables false
namespace Go.Abs
def nY:D->Prop
 | .sl _ rows=>rows=[]
 | .bN _ | .fn _ _ | .agg _ | .bI _ | .box _ | .own _ _=>False
 | _=>True
def sy:D->Prop
 | .agg cs=>∀ c∈cs,nY c
 | d=>nY d
def vT:D->Prop
 | .bI ds=>∀ d∈ds,sy d
 | d=>sy d
def Eb:D->Prop
 | .box cs=>∀ c∈cs,nY c
 | .own _ rows=>∀ r∈rows,∀ d∈r,nY d
 | .undef=>True
 | _=>False
theorem nY.rep {V V':Addr->Option Value} {S:Nat->Option Value} {v:Value} {d:D} (h:nY d) (r:aE ⟨V,S⟩ v d):aE ⟨V',S⟩ v d:=by
 cases r with
 | sl z a cap rows f hl hz hk hc hr =>
  have:rows=[]:=h;subst this;exact .sl z a cap [] f hl hz hk (by simp) (by simp)
 | slnil z=>exact .slnil z
 | undef v=>exact .undef v
 | bool b=>exact .bool b
 | int k n=>exact .int k n
 | str s=>exact .str s
 | nil=>exact .nil
 | emp a=>exact .emp a
 | jm=>exact .jm
 | eH=>exact .eH
 | fH t v=>exact .fH t v
 | kU=>exact .kU
 | ref r a len cap hh=>exact .ref r a len cap hh
 | addr r off a hh=>exact .addr r off a hh
 | bT r z i k a len cap hh=>exact .bT r z i k a len cap hh
 | fC r z lo len a a' L cap cap' hh h1 h2 h3=>exact .fC r z lo len a a' L cap cap' hh h1 h2 h3
 | eO r off z len cap a a' hh h1 h2=>exact .eO r off z len cap a a' hh h1 h2
 | _=>exact h.elim
theorem sy.rep {V V':Addr->Option Value} {S:Nat->Option Value} {v:Value} {d:D} (h:sy d) (r:aE ⟨V,S⟩ v d):aE ⟨V',S⟩ v d:=by
 by_cases ha:∃ cs,d=.agg cs
 ·obtain ⟨cs,rfl⟩:=ha;obtain ⟨vs,rfl,hs,hr⟩:=r.mU;exact .agg vs cs hs fun i v d hi hd=>nY.rep (h d (List.mem_of_getElem? hd)) (hr i v d hi hd)
 ·have:nY d:=by cases d<;>first | exact h | exact (ha ⟨_,rfl⟩).elim
  exact this.rep r
theorem vT.rep {V V':Addr->Option Value} {S:Nat->Option Value} {v:Value} {d:D} (h:vT d) (r:aE ⟨V,S⟩ v d):aE ⟨V',S⟩ v d:=by
 by_cases ha:∃ cs,d=.bI cs
 ·obtain ⟨cs,rfl⟩:=ha;obtain ⟨vs,rfl,hs,hr⟩:=r.Ap;exact .bI vs cs hs fun i v d hi hd=>sy.rep (h d (List.mem_of_getElem? hd)) (hr i v d hi hd)
 ·have:sy d:=by cases d<;>first | exact h | exact (ha ⟨_,rfl⟩).elim
  exact this.rep r
def x9:List Nat->Env->Env
 | [],e=>e
 | r :: rs,e=>x9 rs (kj r e)
def cZ:D->Bool
 | .undef=>true
 | _=>false
def ku:List Nat->List D->List Nat
 | g :: gs,h :: hs=>if cZ h then g :: ku gs hs else ku gs hs
 | _,_=>[]
def lp (d:Nat):Nat->Nat->List Nat
 | _,0=>[]
 | k,m+1=>nm d k :: lp d (k+1) m
def EI (f:Nat->Option Nat):List Nat->List D->Env->Env
 | r :: rs,h :: hs,e=>EI f rs hs (eG e r (h.jI f))
 | _,_,e=>e
def N0 (ns:List Nat) (i:Nat):Option Nat:=ns[i]?
def gh (d:Nat) (gs:List Nat) (hs':List D):List Nat:=gs++lp d 0 (hs'.length-gs.length)
def eT (e:Env) (d:Nat) (gs:List Nat) (hs':List D) (dv:D):Env:=
 dD (EI (N0 (gh d gs hs')) (gh d gs hs') hs' (x9 (ku gs hs') e)) d (dv.jI (N0 (gh d gs hs')))
structure Out (m:Nat) (hs':List D) (w:World) (l0:Nat->Option Nat) (G0:Nat->Option (Nat × Nat)) (S0:Nat->Option Value) (w':World) (v:Value) (d:D):Prop where
 os:w'.os=w.os
 tape:w'.tape=w.tape
 output:w'.output=w.output
 size:w.heap.size<=w'.heap.size
 old:∀ b,b < w.heap.size->G0 b=none->w'.heap[b]?=w.heap[b]?
 part:∀ b lo hi,G0 b=some (lo,hi)->jZ w w' b lo hi
 rep:∃ lev own S,(∀ b m,lev b=some m->b < w'.heap.size)/\(∀ b,b < w.heap.size->G0 b=none->lev b=l0 b)/\aE (cx w' lev S) v d /\
  (∀ r,kf w.heap.size G0 w' lev own S r (hs'.getD r .undef))/\∀ i,i < m->hs'.getD i .undef≠.undef->S i=S0 i
theorem Ii (d:Nat):∀ (m k:Nat),(lp d k m).length=m
 | 0,_=>rfl
 | m+1,k=>by simp [lp,Ii d m]
theorem vS {d:Nat}:∀ {m k s:Nat},s∈lp d k m->∃ j,k<=j/\j < k+m/\s=nm d j
 | 0,_,_,h=>by simp [lp] at h
 | m+1,k,s,h=>by
  simp only [lp,List.mem_cons] at h;rcases h with rfl | h
  ·exact ⟨k,Nat.le_refl _,by omega,rfl⟩
  ·obtain ⟨j,h1,h2,h3⟩:=vS h;exact ⟨j,by omega,by omega,h3⟩
theorem YL {d i j:Nat} (h:nm d i=nm d j):i=j:=by unfold nm at h;omega
theorem C8 (d:Nat):∀ (m k:Nat),(lp d k m).Nodup
 | 0,_=>by simp [lp]
 | m+1,k=>by
  simp only [lp,List.nodup_cons];refine ⟨?_,C8 d m (k+1)⟩;intro h;obtain ⟨j,h1,_,h3⟩:=vS h;have:=YL h3;omega
section
variable {P:Program} {w0 w w':World} {l0:Nat->Option Nat} {G:Nat->Option (Nat × Nat)} {S0:Nat->Option Value} {lev lev' own own':Nat->Option Nat} {S S':Nat->Option Value} {env env':Env} {tm tm':Nat->Value} {B:Nat} {gs:List Nat} {bw:Bool}
theorem Inv.jh:∀ (ks:List Nat) {S:Nat->Option Value} {env:Env},Inv w0 l0 G S0 w lev own S env tm->∃ Sk,Inv w0 l0 G S0 w lev own Sk (x9 ks env) tm/\∀ s u,Sk s=some u->S s=some u/\s ∉ ks
 | [],S,env,h=>⟨S,h,fun s u hu=>⟨hu,by simp⟩⟩
 | k :: ks,S,env,h=>by
  obtain ⟨Sk,h1,h2⟩:=Inv.jh ks (h.kill k);refine ⟨Sk,h1,fun s u hu=>?_⟩;obtain ⟨h3,h4⟩:=h2 s u hu
  by_cases e:s=k
  ·subst e;rw [dY] at h3;cases h3
  ·rw [eU _ _ e] at h3;exact ⟨h3,by simp [e,h4]⟩
theorem Fi (f:Nat->Option Nat):∀ (ns:List Nat) (hs:List D) (e:Env) (r:Nat),ns.Nodup->ns.length=hs.length->(EI f ns hs e).o r=match idx ns r with
  | some i=>(hs.getD i .undef).jI f
  | none=>e.o r
 | [],[],e,r,_,_=>rfl
 | [],_ :: _,_,_,_,h=>by simp at h
 | _ :: _,[],_,_,_,h=>by simp at h
 | n :: ns,h :: hs,e,r,hn,hl=>by
  have hn':=List.nodup_cons.1 hn;rw [EI,Fi f ns hs _ r hn'.2 (by simpa using hl)]
  by_cases e':n=r
  ·subst e'
   have:idx ns n=none:=by
    cases hx:idx ns n with
    | none=>rfl
    | some i=>exact (hn'.1 (List.mem_of_getElem? (qQ hx))).elim
   rw [this];simp [idx,eG]
  ·simp only [idx,if_neg e'];cases hx:idx ns r with
   | none=>simp [eG,Ne.symm e']
   | some i=>simp
theorem Us (f:Nat->Option Nat):∀ (ns:List Nat) (hs:List D) (e:Env),(EI f ns hs e).t=e.t
 | [],_,_=>rfl
 | _ :: _,[],_=>rfl
 | n :: ns,h :: hs,e=>by rw [EI,Us f ns hs];rfl
theorem Jk:∀ (gs:List Nat) (hs:List D) (i r:Nat),gs.Nodup->gs.length<=hs.length->gs[i]?=some r->(r∈ku gs hs ↔ hs.getD i .undef=.undef)
 | [],_,i,r,_,_,h=>by simp at h
 | g :: gs,[],_,_,_,hl,_=>by simp at hl
 | g :: gs,h :: hs,i,r,hn,hl,hi=>by
  have hn':=List.nodup_cons.1 hn
  have hsub:∀ (gs:List Nat) (hs:List D) (x:Nat),x∈ku gs hs->x∈gs:=by
   intro gs
   induction gs with
   | nil=>intro hs x hx;cases hs<;>simp [ku] at hx
   | cons g gs ih =>
    intro hs x hx;cases hs with
    | nil=>simp [ku] at hx
    | cons h hs =>
     simp only [ku] at hx;split at hx
     ·rcases List.mem_cons.1 hx with rfl | hx
      ·simp
      ·exact List.mem_cons_of_mem _ (ih hs x hx)
     ·exact List.mem_cons_of_mem _ (ih hs x hx)
  cases i with
  | zero =>
   simp at hi;subst hi;simp only [ku,List.getD_cons_zero];cases h<;>simp [cZ]<;>exact fun hx=>hn'.1 (hsub _ _ _ hx)
  | succ i =>
   simp only [List.getElem?_cons_succ] at hi;have hne:r≠g:=by rintro rfl;exact hn'.1 (List.mem_of_getElem? hi)
   have ih:=Jk gs hs i r hn'.2 (by simpa using hl) hi;simp only [ku,List.getD_cons_succ];split
   ·simp [hne,ih]
   ·exact ih
theorem jZ.mono {b lo hi lo' hi':Nat} (h:jZ w w' b lo hi) (h1:lo'<=lo) (h2:hi<=hi'):jZ w w' b lo' hi':=by
 obtain ⟨c0,c,E,a1,a2,a3,a4⟩:=h;exact ⟨c0,c,E,a1,a2,a3,fun j hj=>a4 j (by omega)⟩
theorem Inv.call (h:Inv w0 l0 G S0 w lev own S env tm) {d:Nat} {hs':List D} {v:Value} {dv:D} (hn:gs.Nodup) (hlive:∀ r∈gs,env.o r≠.undef) (hfresh:∀ r∈lp d 0 (hs'.length-gs.length),env.o r=.undef)
  (hlen:gs.length<=hs'.length) (hperm:bw=true->vT dv/\∀ h∈hs',Eb h) (ho:Out gs.length hs' w (qh bw gs lev own) (nO gs S env.o) (Am gs S) w' v dv) :
  ∃ lev' own' S',Inv w0 l0 G S0 w' lev' own' S' (eT env d gs hs' dv) (DP tm d v):=by
 obtain ⟨hos,htape,hout,hsize,hold,hpart,lev1,own1,S1,hlp,hlo,hrep,hobj,hsurv⟩:=ho;obtain ⟨Sk,hk,hSk⟩:=h.jh (ku gs hs')
 -- the names
 have hnd:(gh d gs hs').Nodup:=by
  unfold gh;refine List.nodup_append.2 ⟨hn,C8 _ _ _,?_⟩
  rintro a ha b hb rfl
  exact hlive a ha (hfresh a hb)
 have hnl:(gh d gs hs').length=hs'.length:=by simp [gh,Ii];omega
 -- the given blocks
 have hG:∀ b lo hi,nO gs S env.o b=some (lo,hi)->∃ r∈gs,own b=some r/\lev b=some 0/\Q7 G w0.heap.size b lo hi/\b < w.heap.size:=by
  intro b lo hi hb;obtain ⟨r,hr,u,hu,hbk⟩:=Ec hb;obtain ⟨e1,e2,e3,c,E,e4⟩:=(h.objs r).blk hu hbk;exact ⟨r,hr,e1,e2,e3,lt_of_block e4⟩
 let ns:=gh d gs hs'
 let old:Nat->Prop:=fun b=>b < w.heap.size/\nO gs S env.o b=none
 let lev':Nat->Option Nat:=fun b=>if b < w.heap.size/\nO gs S env.o b=none then lev b else lev1 b
 let own':Nat->Option Nat:=fun b=>if b < w.heap.size/\nO gs S env.o b=none then own b else (own1 b).bind (N0 ns)
 let S':Nat->Option Value:=fun r=>match idx ns r with
  | some i=>S1 i
  | none=>Sk r
 have hvl:mZ w lev w' lev':=by
  intro a u hu;have hlt:=World.block_lt_of_cell? _ _ (lN hu)
  have hg:nO gs S env.o a.block=none:=by
   cases e:nO gs S env.o a.block with
   | none=>rfl
   | some x =>
    obtain ⟨lo,hi⟩:=x;obtain ⟨r,hr,e1,e2,_⟩:=hG _ _ _ e;unfold vis at hu;rw [e2] at hu;simp at hu
  unfold vis at hu |-;simp only [lev',hlt,hg,and_self,if_true];rw [World.cell?_of_block (w:=w) (hold _ hlt hg)];exact hu
 have hSl:∀ s u,Sk s=some u->S' s=some u:=by
  intro s u hu;obtain ⟨h1,h2⟩:=hSk s u hu;simp only [S'];cases hx:idx ns s with
  | none=>exact hu
  | some i =>
   have hget:ns[i]?=some s:=qQ hx
   have hlt:i < gs.length:=by
    rcases Nat.lt_or_ge i gs.length with hlt | hge
    ·exact hlt
    ·exfalso;simp only [ns,gh] at hget;rw [List.getElem?_append_right hge] at hget;have:=hfresh s (List.mem_of_getElem? hget);rw [h.fresh this] at h1;cases h1
   have hgs:gs[i]?=some s:=by
    simp only [ns,gh] at hget
    rwa [List.getElem?_append_left hlt] at hget
   have hnu:hs'.getD i .undef≠.undef:=fun hu'=>h2 ((Jk gs hs' i s hn hlen hgs).2 hu')
   simp only;rw [hsurv i hlt hnu];unfold Am;rw [hgs];exact h1
 -- what the call gives,in the caller's names
 have hren:∀ (u:Value) (x:D),aE (cx w' lev' S1) u x->aE (cx w' lev' S') u (x.jI (N0 ns)):=by
  intro u x hx;refine aE.jI (C:=cx w' lev' S1) (C':=cx w' lev' S') (fun _ _ h=>h) hx ?_;intro s _ t ht y hy;have:idx ns t=some s:=Pk hnd ht;simp only [cx,S',this];exact hy
 have hV:bw=false->mZ w' lev1 w' lev':=by
  intro hb a u hu
  have:lev' a.block=lev1 a.block:=by
   simp only [lev'];split
   ·rename_i hc;rw [hlo _ hc.1 hc.2];unfold qh;split
    ·split<;>simp [hb]
    ·rfl
   ·rfl
  unfold vis at hu |-;rw [this];exact hu
 have hdv:aE (cx w' lev' S1) v dv:=by
  cases hb:bw with
  | false=>exact hrep.fP (hV hb) fun _ _ _ h=>h
  | true=>exact (hperm hb).1.rep hrep
 have hcell:∀ (x:D),(∃ hh∈hs',(∃ cs,hh=.box cs/\x∈cs)\/∃ z rows row,hh=.own z rows/\row∈rows/\x∈row)->∀ u,aE (cx w' lev1 S1) u x->aE (cx w' lev' S1) u x:=by
  rintro x ⟨hh,hm,hx⟩ u hu
  cases hb:bw with
  | false=>exact hu.fP (hV hb) fun _ _ _ h=>h
  | true =>
   have hp:=(hperm hb).2 hh hm;rcases hx with ⟨cs,rfl,hx⟩ | ⟨z,rows,row,rfl,hr,hx⟩
   ·exact (hp x hx).rep hu
   ·exact (hp row hr x hx).rep hu
 have hin:∀ b lo hi,Q7 (nO gs S env.o) w.heap.size b lo hi->Q7 G w0.heap.size b lo hi /\ ¬ old b:=by
  intro b lo hi hg;rcases hg with hg | ⟨l,m,hg,h1,h2⟩
  ·exact ⟨.inl (Nat.le_trans h.size hg),fun hc=>by have:=hc.1;omega⟩
  ·obtain ⟨r,hr,e1,e2,e3,e4⟩:=hG _ _ _ hg;exact ⟨e3.mono h1 h2,fun hc=>by have:=hc.2;rw [hg] at this;cases this⟩
 refine ⟨lev',own',S',⟨hos.trans h.os.1,h.os.2⟩,htape.trans h.tape,hout.trans h.output,Nat.le_trans h.size hsize,?_,?_,?_,?_,?_,?_,?_⟩
 ·intro b hb hg;have hlt:b < w.heap.size:=Nat.lt_of_lt_of_le hb h.size
  have:nO gs S env.o b=none:=by
   cases e:nO gs S env.o b with
   | none=>rfl
   | some x =>
    obtain ⟨lo,hi⟩:=x;obtain ⟨r,hr,e1,e2,e3,e4⟩:=hG _ _ _ e;rcases e3 with e3 | ⟨l,m,e3,_⟩
    ·omega
    ·rw [hg] at e3;cases e3
  exact (hold b hlt this).trans (h.old b hb hg)
 ·intro b lo hi hg;have hp:=h.part b lo hi hg;refine hp.trans ?_;cases e:nO gs S env.o b with
  | none =>
   refine hp.of_same (hold b ?_ e);obtain ⟨_,_,_,_,hb,_⟩:=hp;exact lt_of_block hb
  | some x =>
   obtain ⟨l,m⟩:=x;obtain ⟨r,hr,e1,e2,e3,e4⟩:=hG _ _ _ e;rcases e3 with e3 | ⟨l',m',e3,h1,h2⟩
   ·obtain ⟨c0,_,_,hc0,_⟩:=hp;have:=lt_of_block hc0;omega
   ·rw [hg] at e3;cases e3;exact (hpart b l m e).mono h1 h2
 ·intro b m hb;simp only [lev'] at hb;split at hb
  ·have:=h.priv b m hb;omega
  ·exact hlp b m hb
 ·intro b hb hg;have hlt:b < w.heap.size:=Nat.lt_of_lt_of_le hb h.size
  have:nO gs S env.o b=none:=by
   cases e:nO gs S env.o b with
   | none=>rfl
   | some x =>
    obtain ⟨lo,hi⟩:=x;obtain ⟨r,hr,e1,e2,e3,e4⟩:=hG _ _ _ e;rcases e3 with e3 | ⟨l,m,e3,_⟩
    ·omega
    ·rw [hg] at e3;cases e3
  simp only [lev',hlt,this,and_self,if_true];exact h.iP b hb hg
 ·intro i hi he;have he':(EI (N0 ns) ns hs' (x9 (ku gs hs') env)).o i≠.undef:=he;rw [Fi _ _ _ _ _ hnd hnl] at he';simp only [S'];cases hx:idx ns i with
  | none =>
   rw [hx] at he';exact hk.Pz i hi he'
  | some j =>
   rw [hx] at he';have hget:ns[j]?=some i:=qQ hx
   have hlt:j < gs.length:=by
    rcases Nat.lt_or_ge j gs.length with hlt | hge
    ·exact hlt
    ·exfalso;simp only [ns,gh] at hget;rw [List.getElem?_append_right hge] at hget;obtain ⟨_,_,_,e⟩:=vS (List.mem_of_getElem? hget);have:=GX d;rw [e] at hi;have:=GX d ‹_›;omega
   have hgs:gs[j]?=some i:=by
    simp only [ns,gh] at hget
    rwa [List.getElem?_append_left hlt] at hget
   have hnu:hs'.getD j .undef≠.undef:=by
    intro e;simp only [e,D.jI] at he';exact he' rfl
   simp only;rw [hsurv j hlt hnu];unfold Am;rw [hgs];exact h.Pz i hi (hlive i (List.mem_of_getElem? hgs))
 ·intro s
  by_cases e:s=d
  ·subst e;simp only [eT,IF];simpa [DP] using hren v dv hdv
  ·simp only [eT];rw [Ed e,Us];have:DP tm d v s=tm s:=by simp [DP,e]
   rw [this];exact (hk.lU s).fP hvl fun s _ u hu=>hSl s u hu
 ·intro r
  show kf _ _ _ _ _ _ r ((EI (N0 ns) ns hs' (x9 (ku gs hs') env)).o r)
  rw [Fi _ _ _ _ _ hnd hnl];cases hx:idx ns r with
  | none =>
   have hor:=hk.objs r;have hSr:S' r=Sk r:=by simp only [S',hx]
   have hrg:r ∉ gs:=by
    intro hr;have:r∈ns:=List.mem_append_left _ hr;obtain ⟨i,hi⟩:=Xj this;rw [hx] at hi;cases hi
   refine hor.keep hvl (fun s _ u hu=>hSl s u hu) (fun hd=>by rw [hd] at hor;rw [hSr];exact hor) ?_;intro b hb hl;have hlt:=h.priv b 0 hl
   have hg:nO gs S env.o b=none:=by
    cases e:nO gs S env.o b with
    | none=>rfl
    | some x =>
     obtain ⟨lo,hi⟩:=x;obtain ⟨r',hr',e1,_⟩:=hG _ _ _ e;rw [hb] at e1;cases e1;exact (hrg hr').elim
   refine ⟨hold b hlt hg,?_,?_⟩
   ·simp only [lev',hlt,hg,and_self,if_true]
   ·simp only [own',hlt,hg,and_self,if_true]
  | some i =>
   have hget:ns[i]?=some r:=qQ hx;have hSr:S' r=S1 i:=by simp only [S',hx]
   have hob:=hobj i
   have hmem:hs'.getD i .undef≠.undef->hs'.getD i .undef∈hs':=by
    intro hne;rcases Nat.lt_or_ge i hs'.length with hlt | hge
    ·rw [show hs'.getD i .undef=hs'[i] by simp [List.getD,hlt]];exact List.getElem_mem hlt
    ·rw [show hs'.getD i .undef=.undef by simp [List.getD,hge]] at hne;exact (hne rfl).elim
   have hbo:∀ b lo hi,Q7 (nO gs S env.o) w.heap.size b lo hi->own1 b=some i->lev' b=lev1 b/\own' b=some r/\Q7 G w0.heap.size b lo hi:=by
    intro b lo hi hg hb;obtain ⟨h1,h2⟩:=hin b lo hi hg;refine ⟨if_neg h2,?_,h1⟩;simp only [own'];rw [if_neg h2,hb];exact hget
   show kf _ _ _ _ _ _ r ((hs'.getD i .undef).jI (N0 ns))
   generalize hgd:hs'.getD i .undef=x at hob hmem |-;cases x<;>try exact hob.elim
   ·simp only [D.jI]
    show S' r=none
    rw [hSr];exact hob
   ·rename_i z rows;have hm:=hmem (by simp);simp only [D.jI];rcases hob with ⟨a,h1,h2⟩ | ⟨b,c,E,cap,h1,h2,h3,h4,h5,h6,h7,h8,h9,h10⟩
    ·exact .inl ⟨a,hSr.trans h1,h2⟩
    ·obtain ⟨g1,g2,g3⟩:=hbo b _ _ h9 h8;refine .inr ⟨b,c,E,cap,hSr.trans h1,h2,h3,h4,h5,h6,g1.trans h7,g2,g3,?_⟩;intro i' j row y hi hj;obtain ⟨u,hu,hru⟩:=h10 i' j row y hi hj;have hpm:=h6 row (List.mem_of_getElem? hi) y (List.mem_of_getElem? hj);have:=hcell y ⟨_,hm,.inr ⟨z,rows,row,rfl,List.mem_of_getElem? hi,List.mem_of_getElem? hj⟩⟩ u hru;exact ⟨u,hu,this.fP (.refl _ _) (by rw [hpm.2];simp)⟩
   ·rename_i cs;have hm:=hmem (by simp);simp only [D.jI];obtain ⟨b,o,c,E,h1,h2,h3,h4,h5,h6,h7⟩:=hob;obtain ⟨g1,g2,g3⟩:=hbo b _ _ h6 h5;rw [GP];refine ⟨b,o,c,E,hSr.trans h1,h2,by simpa using h3,g1.trans h4,g2,by simpa using g3,?_⟩;intro j u e hu he;simp only [List.getElem?_map] at he;cases hy:cs[j]? with
    | none=>rw [hy] at he;cases he
    | some y =>
     rw [hy] at he;cases he;exact hren u y (hcell y ⟨_,hm,.inl ⟨cs,rfl,List.mem_of_getElem? hy⟩⟩ u (h7 j u y hu hy))
end
end Go.Abs
