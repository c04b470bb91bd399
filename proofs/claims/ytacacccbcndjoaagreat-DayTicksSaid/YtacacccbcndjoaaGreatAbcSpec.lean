/- What a call gives, and what its caller knows then. No theorem of a claim. -/
import Derived.Test.YtacacccbcndjoaaGreatAbcCall
set_option linter.unusedSimpArgs false
set_option linter.unusedVariables false
namespace Go.Abs
def nq:D->Prop
 | .sl _ rows=>rows=[]
 | .bI _ | .fn _ _ | .agg _ | .bD _ | .box _ | .own _ _=>False
 | _=>True
def qI:D->Prop
 | .agg cs=>∀ c∈cs,nq c
 | d=>nq d
def tN:D->Prop
 | .bD ds=>∀ d∈ds,qI d
 | d=>qI d
def Aw:D->Prop
 | .box cs=>∀ c∈cs,nq c
 | .own _ rows=>∀ r∈rows,∀ d∈r,nq d
 | .undef=>True
 | _=>False
theorem nq.rep {V V':Addr->Option Value} {S:Nat->Option Value} {v:Value} {d:D} (h:nq d) (r:aE ⟨V,S⟩ v d):aE ⟨V',S⟩ v d:=by
 cases r with
 | sl z a cap rows f hl hz hk hc hr =>
  have:rows=[]:=h;subst this;exact .sl z a cap [] f hl hz hk (by simp) (by simp)
 | slnil z=>exact .slnil z
 | undef v=>exact .undef v
 | bool b=>exact .bool b
 | int k n=>exact .int k n
 | str s=>exact .str s
 | nil=>exact .nil
 | emp a=>exact .emp a
 | iP=>exact .iP
 | eM=>exact .eM
 | fu t v=>exact .fu t v
 | j4=>exact .j4
 | ref r a len cap hh=>exact .ref r a len cap hh
 | addr r off a hh=>exact .addr r off a hh
 | bQ r z i k a len cap hh=>exact .bQ r z i k a len cap hh
 | fj r z lo len a a' L cap cap' hh h1 h2 h3=>exact .fj r z lo len a a' L cap cap' hh h1 h2 h3
 | eI r off z len cap a a' hh h1 h2=>exact .eI r off z len cap a a' hh h1 h2
 | _=>exact h.elim
theorem qI.rep {V V':Addr->Option Value} {S:Nat->Option Value} {v:Value} {d:D} (h:qI d) (r:aE ⟨V,S⟩ v d):aE ⟨V',S⟩ v d:=by
 by_cases ha:∃ cs,d=.agg cs
 ·obtain ⟨cs,rfl⟩:=ha;obtain ⟨vs,rfl,hs,hr⟩:=r.lU;exact .agg vs cs hs fun i v d hi hd=>nq.rep (h d (List.mem_of_getElem? hd)) (hr i v d hi hd)
 ·have:nq d:=by cases d<;>first | exact h | exact (ha ⟨_,rfl⟩).elim
  exact this.rep r
theorem tN.rep {V V':Addr->Option Value} {S:Nat->Option Value} {v:Value} {d:D} (h:tN d) (r:aE ⟨V,S⟩ v d):aE ⟨V',S⟩ v d:=by
 by_cases ha:∃ cs,d=.bD cs
 ·obtain ⟨cs,rfl⟩:=ha;obtain ⟨vs,rfl,hs,hr⟩:=r.xh;exact .bD vs cs hs fun i v d hi hd=>qI.rep (h d (List.mem_of_getElem? hd)) (hr i v d hi hd)
 ·have:qI d:=by cases d<;>first | exact h | exact (ha ⟨_,rfl⟩).elim
  exact this.rep r
def u9:List Nat->Env->Env
 | [],e=>e
 | r :: rs,e=>u9 rs (jT r e)
def cU:D->Bool
 | .undef=>true
 | _=>false
def jM:List Nat->List D->List Nat
 | g :: gs,h :: hs=>if cU h then g :: jM gs hs else jM gs hs
 | _,_=>[]
def j8 (d:Nat):Nat->Nat->List Nat
 | _,0=>[]
 | k,m+1=>nm d k :: j8 d (k+1) m
def Du (f:Nat->Option Nat):List Nat->List D->Env->Env
 | r :: rs,h :: hs,e=>Du f rs hs (dV e r (h.jx f))
 | _,_,e=>e
def K0 (ns:List Nat) (i:Nat):Option Nat:=ns[i]?
def fS (d:Nat) (gs:List Nat) (hs':List D):List Nat:=gs++j8 d 0 (hs'.length-gs.length)
def eO (e:Env) (d:Nat) (gs:List Nat) (hs':List D) (dv:D):Env:=
 cy (Du (K0 (fS d gs hs')) (fS d gs hs') hs' (u9 (jM gs hs') e)) d (dv.jx (K0 (fS d gs hs')))
structure Out (m:Nat) (hs':List D) (w:World) (l0:Nat->Option Nat) (G0:Nat->Option (Nat × Nat)) (S0:Nat->Option Value) (w':World) (v:Value) (d:D):Prop where
 os:w'.os=w.os
 tape:w'.tape=w.tape
 output:w'.output=w.output
 size:w.heap.size<=w'.heap.size
 old:∀ b,b < w.heap.size->G0 b=none->w'.heap[b]?=w.heap[b]?
 part:∀ b lo hi,G0 b=some (lo,hi)->jH w w' b lo hi
 rep:∃ lev own S,(∀ b m,lev b=some m->b < w'.heap.size)/\(∀ b,b < w.heap.size->G0 b=none->lev b=l0 b)/\aE (cx w' lev S) v d /\
  (∀ r,jZ w.heap.size G0 w' lev own S r (hs'.getD r .undef))/\∀ i,i < m->hs'.getD i .undef≠.undef->S i=S0 i
theorem FU (d:Nat):∀ (m k:Nat),(j8 d k m).length=m
 | 0,_=>rfl
 | m+1,k=>by simp [j8,FU d m]
theorem tU {d:Nat}:∀ {m k s:Nat},s∈j8 d k m->∃ j,k<=j/\j < k+m/\s=nm d j
 | 0,_,_,h=>by simp [j8] at h
 | m+1,k,s,h=>by
  simp only [j8,List.mem_cons] at h;rcases h with rfl | h
  ·exact ⟨k,Nat.le_refl _,by omega,rfl⟩
  ·obtain ⟨j,h1,h2,h3⟩:=tU h;exact ⟨j,by omega,by omega,h3⟩
theorem W2 {d i j:Nat} (h:nm d i=nm d j):i=j:=by unfold nm at h;omega
theorem yU (d:Nat):∀ (m k:Nat),(j8 d k m).Nodup
 | 0,_=>by simp [j8]
 | m+1,k=>by
  simp only [j8,List.nodup_cons];refine ⟨?_,yU d m (k+1)⟩;intro h;obtain ⟨j,h1,_,h3⟩:=tU h;have:=W2 h3;omega
section
variable {P:Program} {w0 w w':World} {l0:Nat->Option Nat} {G:Nat->Option (Nat × Nat)} {S0:Nat->Option Value} {lev lev' own own':Nat->Option Nat} {S S':Nat->Option Value} {env env':Env} {tm tm':Nat->Value} {B:Nat} {gs:List Nat} {bw:Bool}
theorem Inv.iK:∀ (ks:List Nat) {S:Nat->Option Value} {env:Env},Inv w0 l0 G S0 w lev own S env tm->∃ Sk,Inv w0 l0 G S0 w lev own Sk (u9 ks env) tm/\∀ s u,Sk s=some u->S s=some u/\s ∉ ks
 | [],S,env,h=>⟨S,h,fun s u hu=>⟨hu,by simp⟩⟩
 | k :: ks,S,env,h=>by
  obtain ⟨Sk,h1,h2⟩:=Inv.iK ks (h.kill k);refine ⟨Sk,h1,fun s u hu=>?_⟩;obtain ⟨h3,h4⟩:=h2 s u hu
  by_cases e:s=k
  ·subst e;rw [dN] at h3;cases h3
  ·rw [eC _ _ e] at h3;exact ⟨h3,by simp [e,h4]⟩
theorem CW (f:Nat->Option Nat):∀ (ns:List Nat) (hs:List D) (e:Env) (r:Nat),ns.Nodup->ns.length=hs.length->(Du f ns hs e).o r=match idx ns r with
  | some i=>(hs.getD i .undef).jx f
  | none=>e.o r
 | [],[],e,r,_,_=>rfl
 | [],_ :: _,_,_,_,h=>by simp at h
 | _ :: _,[],_,_,_,h=>by simp at h
 | n :: ns,h :: hs,e,r,hn,hl=>by
  have hn':=List.nodup_cons.1 hn;rw [Du,CW f ns hs _ r hn'.2 (by simpa using hl)]
  by_cases e':n=r
  ·subst e'
   have:idx ns n=none:=by
    cases hx:idx ns n with
    | none=>rfl
    | some i=>exact (hn'.1 (List.mem_of_getElem? (pQ hx))).elim
   rw [this];simp [idx,dV]
  ·simp only [idx,if_neg e'];cases hx:idx ns r with
   | none=>simp [dV,Ne.symm e']
   | some i=>simp
theorem P3 (f:Nat->Option Nat):∀ (ns:List Nat) (hs:List D) (e:Env),(Du f ns hs e).t=e.t
 | [],_,_=>rfl
 | _ :: _,[],_=>rfl
 | n :: ns,h :: hs,e=>by rw [Du,P3 f ns hs];rfl
theorem Ge:∀ (gs:List Nat) (hs:List D) (i r:Nat),gs.Nodup->gs.length<=hs.length->gs[i]?=some r->(r∈jM gs hs ↔ hs.getD i .undef=.undef)
 | [],_,i,r,_,_,h=>by simp at h
 | g :: gs,[],_,_,_,hl,_=>by simp at hl
 | g :: gs,h :: hs,i,r,hn,hl,hi=>by
  have hn':=List.nodup_cons.1 hn
  have hsub:∀ (gs:List Nat) (hs:List D) (x:Nat),x∈jM gs hs->x∈gs:=by
   intro gs
   induction gs with
   | nil=>intro hs x hx;cases hs<;>simp [jM] at hx
   | cons g gs ih =>
    intro hs x hx;cases hs with
    | nil=>simp [jM] at hx
    | cons h hs =>
     simp only [jM] at hx;split at hx
     ·rcases List.mem_cons.1 hx with rfl | hx
      ·simp
      ·exact List.mem_cons_of_mem _ (ih hs x hx)
     ·exact List.mem_cons_of_mem _ (ih hs x hx)
  cases i with
  | zero =>
   simp at hi;subst hi;simp only [jM,List.getD_cons_zero];cases h<;>simp [cU]<;>exact fun hx=>hn'.1 (hsub _ _ _ hx)
  | succ i =>
   simp only [List.getElem?_cons_succ] at hi;have hne:r≠g:=by rintro rfl;exact hn'.1 (List.mem_of_getElem? hi)
   have ih:=Ge gs hs i r hn'.2 (by simpa using hl) hi;simp only [jM,List.getD_cons_succ];split
   ·simp [hne,ih]
   ·exact ih
theorem jH.mono {b lo hi lo' hi':Nat} (h:jH w w' b lo hi) (h1:lo'<=lo) (h2:hi<=hi'):jH w w' b lo' hi':=by
 obtain ⟨c0,c,E,a1,a2,a3,a4⟩:=h;exact ⟨c0,c,E,a1,a2,a3,fun j hj=>a4 j (by omega)⟩
theorem Inv.call (h:Inv w0 l0 G S0 w lev own S env tm) {d:Nat} {hs':List D} {v:Value} {dv:D} (hn:gs.Nodup) (hlive:∀ r∈gs,env.o r≠.undef) (hfresh:∀ r∈j8 d 0 (hs'.length-gs.length),env.o r=.undef)
  (hlen:gs.length<=hs'.length) (hperm:bw=true->tN dv/\∀ h∈hs',Aw h) (ho:Out gs.length hs' w (pM bw gs lev own) (ng gs S env.o) (xz gs S) w' v dv) :
  ∃ lev' own' S',Inv w0 l0 G S0 w' lev' own' S' (eO env d gs hs' dv) (Ai tm d v):=by
 obtain ⟨hos,htape,hout,hsize,hold,hpart,lev1,own1,S1,hlp,hlo,hrep,hobj,hsurv⟩:=ho;obtain ⟨Sk,hk,hSk⟩:=h.iK (jM gs hs')
 -- the names
 have hnd:(fS d gs hs').Nodup:=by
  unfold fS;refine List.nodup_append.2 ⟨hn,yU _ _ _,?_⟩
  rintro a ha b hb rfl
  exact hlive a ha (hfresh a hb)
 have hnl:(fS d gs hs').length=hs'.length:=by simp [fS,FU];omega
 -- the given blocks
 have hG:∀ b lo hi,ng gs S env.o b=some (lo,hi)->∃ r∈gs,own b=some r/\lev b=some 0/\Og G w0.heap.size b lo hi/\b < w.heap.size:=by
  intro b lo hi hb;obtain ⟨r,hr,u,hu,hbk⟩:=Al hb;obtain ⟨e1,e2,e3,c,E,e4⟩:=(h.objs r).blk hu hbk;exact ⟨r,hr,e1,e2,e3,lt_of_block e4⟩
 let ns:=fS d gs hs'
 let old:Nat->Prop:=fun b=>b < w.heap.size/\ng gs S env.o b=none
 let lev':Nat->Option Nat:=fun b=>if b < w.heap.size/\ng gs S env.o b=none then lev b else lev1 b
 let own':Nat->Option Nat:=fun b=>if b < w.heap.size/\ng gs S env.o b=none then own b else (own1 b).bind (K0 ns)
 let S':Nat->Option Value:=fun r=>match idx ns r with
  | some i=>S1 i
  | none=>Sk r
 have hvl:mA w lev w' lev':=by
  intro a u hu;have hlt:=World.block_lt_of_cell? _ _ (mB hu)
  have hg:ng gs S env.o a.block=none:=by
   cases e:ng gs S env.o a.block with
   | none=>rfl
   | some x =>
    obtain ⟨lo,hi⟩:=x;obtain ⟨r,hr,e1,e2,_⟩:=hG _ _ _ e;unfold vis at hu;rw [e2] at hu;simp at hu
  unfold vis at hu |-;simp only [lev',hlt,hg,and_self,if_true];rw [World.cell?_of_block (w:=w) (hold _ hlt hg)];exact hu
 have hSl:∀ s u,Sk s=some u->S' s=some u:=by
  intro s u hu;obtain ⟨h1,h2⟩:=hSk s u hu;simp only [S'];cases hx:idx ns s with
  | none=>exact hu
  | some i =>
   have hget:ns[i]?=some s:=pQ hx
   have hlt:i < gs.length:=by
    rcases Nat.lt_or_ge i gs.length with hlt | hge
    ·exact hlt
    ·exfalso;simp only [ns,fS] at hget;rw [List.getElem?_append_right hge] at hget;have:=hfresh s (List.mem_of_getElem? hget);rw [h.fresh this] at h1;cases h1
   have hgs:gs[i]?=some s:=by
    simp only [ns,fS] at hget
    rwa [List.getElem?_append_left hlt] at hget
   have hnu:hs'.getD i .undef≠.undef:=fun hu'=>h2 ((Ge gs hs' i s hn hlen hgs).2 hu')
   simp only;rw [hsurv i hlt hnu];unfold xz;rw [hgs];exact h1
 -- what the call gives,in the caller's names
 have hren:∀ (u:Value) (x:D),aE (cx w' lev' S1) u x->aE (cx w' lev' S') u (x.jx (K0 ns)):=by
  intro u x hx;refine aE.jx (C:=cx w' lev' S1) (C':=cx w' lev' S') (fun _ _ h=>h) hx ?_;intro s _ t ht y hy;have:idx ns t=some s:=Lp hnd ht;simp only [cx,S',this];exact hy
 have hV:bw=false->mA w' lev1 w' lev':=by
  intro hb a u hu
  have:lev' a.block=lev1 a.block:=by
   simp only [lev'];split
   ·rename_i hc;rw [hlo _ hc.1 hc.2];unfold pM;split
    ·split<;>simp [hb]
    ·rfl
   ·rfl
  unfold vis at hu |-;rw [this];exact hu
 have hdv:aE (cx w' lev' S1) v dv:=by
  cases hb:bw with
  | false=>exact hrep.fC (hV hb) fun _ _ _ h=>h
  | true=>exact (hperm hb).1.rep hrep
 have hcell:∀ (x:D),(∃ hh∈hs',(∃ cs,hh=.box cs/\x∈cs)\/∃ z rows row,hh=.own z rows/\row∈rows/\x∈row)->∀ u,aE (cx w' lev1 S1) u x->aE (cx w' lev' S1) u x:=by
  rintro x ⟨hh,hm,hx⟩ u hu
  cases hb:bw with
  | false=>exact hu.fC (hV hb) fun _ _ _ h=>h
  | true =>
   have hp:=(hperm hb).2 hh hm;rcases hx with ⟨cs,rfl,hx⟩ | ⟨z,rows,row,rfl,hr,hx⟩
   ·exact (hp x hx).rep hu
   ·exact (hp row hr x hx).rep hu
 have hin:∀ b lo hi,Og (ng gs S env.o) w.heap.size b lo hi->Og G w0.heap.size b lo hi /\ ¬ old b:=by
  intro b lo hi hg;rcases hg with hg | ⟨l,m,hg,h1,h2⟩
  ·exact ⟨.inl (Nat.le_trans h.size hg),fun hc=>by have:=hc.1;omega⟩
  ·obtain ⟨r,hr,e1,e2,e3,e4⟩:=hG _ _ _ hg;exact ⟨e3.mono h1 h2,fun hc=>by have:=hc.2;rw [hg] at this;cases this⟩
 refine ⟨lev',own',S',⟨hos.trans h.os.1,h.os.2⟩,htape.trans h.tape,hout.trans h.output,Nat.le_trans h.size hsize,?_,?_,?_,?_,?_,?_,?_⟩
 ·intro b hb hg;have hlt:b < w.heap.size:=Nat.lt_of_lt_of_le hb h.size
  have:ng gs S env.o b=none:=by
   cases e:ng gs S env.o b with
   | none=>rfl
   | some x =>
    obtain ⟨lo,hi⟩:=x;obtain ⟨r,hr,e1,e2,e3,e4⟩:=hG _ _ _ e;rcases e3 with e3 | ⟨l,m,e3,_⟩
    ·omega
    ·rw [hg] at e3;cases e3
  exact (hold b hlt this).trans (h.old b hb hg)
 ·intro b lo hi hg;have hp:=h.part b lo hi hg;refine hp.trans ?_;cases e:ng gs S env.o b with
  | none =>
   refine hp.of_same (hold b ?_ e);obtain ⟨_,_,_,_,hb,_⟩:=hp;exact lt_of_block hb
  | some x =>
   obtain ⟨l,m⟩:=x;obtain ⟨r,hr,e1,e2,e3,e4⟩:=hG _ _ _ e;rcases e3 with e3 | ⟨l',m',e3,h1,h2⟩
   ·obtain ⟨c0,_,_,hc0,_⟩:=hp;have:=lt_of_block hc0;omega
   ·rw [hg] at e3;cases e3;exact (hpart b l m e).mono h1 h2
 ·intro b m hb;simp only [lev'] at hb;split at hb
  ·have:=h.priv b m hb;omega
  ·exact hlp b m hb
 ·intro b hb hg;have hlt:b < w.heap.size:=Nat.lt_of_lt_of_le hb h.size
  have:ng gs S env.o b=none:=by
   cases e:ng gs S env.o b with
   | none=>rfl
   | some x =>
    obtain ⟨lo,hi⟩:=x;obtain ⟨r,hr,e1,e2,e3,e4⟩:=hG _ _ _ e;rcases e3 with e3 | ⟨l,m,e3,_⟩
    ·omega
    ·rw [hg] at e3;cases e3
  simp only [lev',hlt,this,and_self,if_true];exact h.iy b hb hg
 ·intro i hi he;have he':(Du (K0 ns) ns hs' (u9 (jM gs hs') env)).o i≠.undef:=he;rw [CW _ _ _ _ _ hnd hnl] at he';simp only [S'];cases hx:idx ns i with
  | none =>
   rw [hx] at he';exact hk.K7 i hi he'
  | some j =>
   rw [hx] at he';have hget:ns[j]?=some i:=pQ hx
   have hlt:j < gs.length:=by
    rcases Nat.lt_or_ge j gs.length with hlt | hge
    ·exact hlt
    ·exfalso;simp only [ns,fS] at hget;rw [List.getElem?_append_right hge] at hget;obtain ⟨_,_,_,e⟩:=tU (List.mem_of_getElem? hget);have:=zC d;rw [e] at hi;have:=zC d ‹_›;omega
   have hgs:gs[j]?=some i:=by
    simp only [ns,fS] at hget
    rwa [List.getElem?_append_left hlt] at hget
   have hnu:hs'.getD j .undef≠.undef:=by
    intro e;simp only [e,D.jx] at he';exact he' rfl
   simp only;rw [hsurv j hlt hnu];unfold xz;rw [hgs];exact h.K7 i hi (hlive i (List.mem_of_getElem? hgs))
 ·intro s
  by_cases e:s=d
  ·subst e;simp only [eO,FO];simpa [Ai] using hren v dv hdv
  ·simp only [eO];rw [Ay e,P3];have:Ai tm d v s=tm s:=by simp [Ai,e]
   rw [this];exact (hk.kX s).fC hvl fun s _ u hu=>hSl s u hu
 ·intro r
  show jZ _ _ _ _ _ _ r ((Du (K0 ns) ns hs' (u9 (jM gs hs') env)).o r)
  rw [CW _ _ _ _ _ hnd hnl];cases hx:idx ns r with
  | none =>
   have hor:=hk.objs r;have hSr:S' r=Sk r:=by simp only [S',hx]
   have hrg:r ∉ gs:=by
    intro hr;have:r∈ns:=List.mem_append_left _ hr;obtain ⟨i,hi⟩:=Sq this;rw [hx] at hi;cases hi
   refine hor.keep hvl (fun s _ u hu=>hSl s u hu) (fun hd=>by rw [hd] at hor;rw [hSr];exact hor) ?_;intro b hb hl;have hlt:=h.priv b 0 hl
   have hg:ng gs S env.o b=none:=by
    cases e:ng gs S env.o b with
    | none=>rfl
    | some x =>
     obtain ⟨lo,hi⟩:=x;obtain ⟨r',hr',e1,_⟩:=hG _ _ _ e;rw [hb] at e1;cases e1;exact (hrg hr').elim
   refine ⟨hold b hlt hg,?_,?_⟩
   ·simp only [lev',hlt,hg,and_self,if_true]
   ·simp only [own',hlt,hg,and_self,if_true]
  | some i =>
   have hget:ns[i]?=some r:=pQ hx;have hSr:S' r=S1 i:=by simp only [S',hx]
   have hob:=hobj i
   have hmem:hs'.getD i .undef≠.undef->hs'.getD i .undef∈hs':=by
    intro hne;rcases Nat.lt_or_ge i hs'.length with hlt | hge
    ·rw [show hs'.getD i .undef=hs'[i] by simp [List.getD,hlt]];exact List.getElem_mem hlt
    ·rw [show hs'.getD i .undef=.undef by simp [List.getD,hge]] at hne;exact (hne rfl).elim
   have hbo:∀ b lo hi,Og (ng gs S env.o) w.heap.size b lo hi->own1 b=some i->lev' b=lev1 b/\own' b=some r/\Og G w0.heap.size b lo hi:=by
    intro b lo hi hg hb;obtain ⟨h1,h2⟩:=hin b lo hi hg;refine ⟨if_neg h2,?_,h1⟩;simp only [own'];rw [if_neg h2,hb];exact hget
   show jZ _ _ _ _ _ _ r ((hs'.getD i .undef).jx (K0 ns))
   generalize hgd:hs'.getD i .undef=x at hob hmem |-;cases x<;>try exact hob.elim
   ·simp only [D.jx]
    show S' r=none
    rw [hSr];exact hob
   ·rename_i z rows;have hm:=hmem (by simp);simp only [D.jx];rcases hob with ⟨a,h1,h2⟩ | ⟨b,c,E,cap,h1,h2,h3,h4,h5,h6,h7,h8,h9,h10⟩
    ·exact .inl ⟨a,hSr.trans h1,h2⟩
    ·obtain ⟨g1,g2,g3⟩:=hbo b _ _ h9 h8;refine .inr ⟨b,c,E,cap,hSr.trans h1,h2,h3,h4,h5,h6,g1.trans h7,g2,g3,?_⟩;intro i' j row y hi hj;obtain ⟨u,hu,hru⟩:=h10 i' j row y hi hj;have hpm:=h6 row (List.mem_of_getElem? hi) y (List.mem_of_getElem? hj);have:=hcell y ⟨_,hm,.inr ⟨z,rows,row,rfl,List.mem_of_getElem? hi,List.mem_of_getElem? hj⟩⟩ u hru;exact ⟨u,hu,this.fC (.refl _ _) (by rw [hpm.2];simp)⟩
   ·rename_i cs;have hm:=hmem (by simp);simp only [D.jx];obtain ⟨b,o,c,E,h1,h2,h3,h4,h5,h6,h7⟩:=hob;obtain ⟨g1,g2,g3⟩:=hbo b _ _ h6 h5;rw [Dp];refine ⟨b,o,c,E,hSr.trans h1,h2,by simpa using h3,g1.trans h4,g2,by simpa using g3,?_⟩;intro j u e hu he;simp only [List.getElem?_map] at he;cases hy:cs[j]? with
    | none=>rw [hy] at he;cases he
    | some y =>
     rw [hy] at he;cases he;exact hren u y (hcell y ⟨_,hm,.inl ⟨cs,rfl,List.mem_of_getElem? hy⟩⟩ u (h7 j u y hu hy))
end
end Go.Abs
