/- How what is known of a frame's slots and objects is kept, step by step. No theorem of a claim. -/
import Derived.Test.YtacacccbcndjoaaGreatAbcMem
set_option linter.unusedSimpArgs false
set_option linter.unusedVariables false
namespace Go.Abs
def Ai (tm:Nat->Value) (s:Nat) (v:Value):Nat->Value:=fun t=>if t=s then v else tm t
theorem Rb {tmps:Array Value} {s:Nat} (h:s < tmps.size) (v:Value):jm (tmps.setIfInBounds s v)=Ai (jm tmps) s v:=by
 funext t
 simp only [jm,Ai,Array.getD_eq_getD_getElem?,Array.getElem?_setIfInBounds]
 by_cases e:s=t
 ·subst e;simp [h]
 ·simp [e,Ne.symm e]
def dj (c:Array Value) (o:Nat):List Value->Array Value
 | []=>c
 | v :: r=>dj (c.setIfInBounds o v) (o+1) r
theorem dH:∀ (vs:List Value) (c:Array Value) (o:Nat),(dj c o vs).size=c.size
 | [],_,_=>rfl
 | v :: r,c,o=>by simp [dj,dH r]
theorem jL:∀ (vs:List Value) (c:Array Value) (o j:Nat),o+vs.length<=c.size ->
  (dj c o vs)[j]?=if o<=j/\j < o+vs.length then vs[j-o]? else c[j]?
 | [],c,o,j,_=>by
  have:¬ (o<=j/\j < o+([]:List Value).length):=by simp only [List.length_nil];omega
  simp only [dj,if_neg this]
 | v :: r,c,o,j,h=>by
  simp only [List.length_cons] at h;rw [dj,jL r _ _ j (by simp;omega)]
  by_cases h1:o+1<=j/\j < o+1+r.length
  ·rw [if_pos h1,if_pos (by simp only [List.length_cons];omega)];have:j-o=(j-(o+1))+1:=by omega
   rw [this];simp
  ·rw [if_neg h1]
   by_cases h2:j=o
   ·subst h2;have hlt:j < c.size:=by omega
    rw [if_pos (by simp only [List.length_cons];omega)];simp [hlt]
   ·rw [if_neg (by simp only [List.length_cons];omega)];rw [Array.getElem?_setIfInBounds_ne (by omega)]
def ew (w:World) (b:Nat) (c:Array Value) (E:TypeId):World:={ w with heap:=w.heap.setIfInBounds b (.cells c E (0,0)) }
theorem zn (w:World) (b:Nat) (c:Array Value) (E:TypeId):(ew w b c E).heap.size=w.heap.size:=by simp [ew]
theorem jW {w:World} {b:Nat} (h:b < w.heap.size) (c:Array Value) (E:TypeId):(ew w b c E).heap[b]?=some (.cells c E (0,0)):=by simp [ew,h]
theorem lQ {w:World} {b k:Nat} (h:k≠b) (c:Array Value) (E:TypeId):(ew w b c E).heap[k]?=w.heap[k]?:=by
 simp [ew,Array.getElem?_setIfInBounds_ne (Ne.symm h)]
theorem Cm {w:World} {b:Nat} {a:Addr} (h:a.block≠b) (c:Array Value) (E:TypeId):(ew w b c E).cell? a=w.cell? a:=by
 simp [World.cell?,lQ h]
theorem lt_of_block {w:World} {b:Nat} {o:Obj} (h:w.heap[b]?=some o):b < w.heap.size:=(Array.getElem?_eq_some_iff.1 h).1
theorem iU {P:Program} (b o:Nat) (E:TypeId):∀ (vs:List Value) (i:Nat) (c:Array Value) (w:World),w.heap[b]?=some (.cells c E (0,0))->o+i+vs.length<=c.size ->
  (∀ v∈vs,v.oneCell'=true)->(storeCells ⟨b,o,none⟩ vs i).run P w=.ok () (ew w b (dj c (o+i) vs) E)
 | [],i,c,w,hb,_,_=>by
  have:ew w b c E=w:=by
   have hlt:=lt_of_block hb;have hg:w.heap[b]=.cells c E (0,0):=by simpa [Array.getElem?_eq_getElem hlt] using hb
   cases w with
   | mk heap tape drawn os out =>
    simp only [ew] at *;congr 1;apply Array.ext_getElem?;intro k;rw [Array.getElem?_setIfInBounds]
    by_cases e:b=k
    ·subst e;rw [if_pos rfl,if_pos hlt,hb]
    ·rw [if_neg e]
  simp [storeCells,dj,Sem.run,pure,this]
 | v :: r,i,c,w,hb,hl,h1=>by
  simp only [List.length_cons] at hl;have hlt:o+i < c.size:=by omega
  have hcell:w.cell? ((⟨b,o,none⟩:Addr).add i)=some c[o+i]:=by rw [eZ,iE w b _ hb];simp [hlt]
  have hfz:w.frozen? ((⟨b,o,none⟩:Addr).add i)=false:=by rw [eZ];simp [World.frozen?,hb]
  have hone:=h1 v (by simp)
  have hset:w.setCell ((⟨b,o,none⟩:Addr).add i) v=ew w b (c.setIfInBounds (o+i) v) E:=by
   rw [eZ];have hbl:=lt_of_block hb;have hg:w.heap[b]=.cells c E (0,0):=by simpa [Array.getElem?_eq_getElem hbl] using hb
   simp only [World.setCell,ew];congr 1;apply Array.ext_getElem?;intro k;rw [Array.getElem?_setIfInBounds,Array.getElem?_modify]
   by_cases e:b=k
   ·subst e;rw [if_pos rfl,if_pos rfl,if_pos hbl,hb];simp
   ·rw [if_neg e,if_neg e]
  have hst:(store ((⟨b,o,none⟩:Addr).add i) v).run P w=.ok () (ew w b (c.setIfInBounds (o+i) v) E):=by
   rw [<- hset];simp only [store];cases v<;>first | (simp [Value.oneCell'] at hone;done) | simp [Sem.run,hcell,hfz]
  have ih:=iU (P:=P) b o E r (i+1) (c.setIfInBounds (o+i) v) (ew w b (c.setIfInBounds (o+i) v) E) (jW (lt_of_block hb) _ _)
   (by simp;omega) (fun x hx=>h1 x (by simp [hx]))
  simp only [storeCells,Sem.run_bind,hst]
  have e:ew (ew w b (c.setIfInBounds (o+i) v) E) b (dj (c.setIfInBounds (o+i) v) (o+(i+1)) r) E=ew w b (dj c (o+i) (v :: r)) E:=by
   simp [ew,dj,Nat.add_assoc]
  rw [<- e,<- ih];rfl
theorem Av {V:Cx} {v:Value} {d:D} (h:aE V v d) (hc:eu d):v.oneCell'=true/\v.cells = #[v]:=by
 cases h<;>first | exact hc.elim | exact ⟨rfl,rfl⟩
theorem oI {V:Cx} {v:Value} {d:D} (h:aE V v d) (hc:∀ c∈d.cells,eu c) :
  v.cells.size=d.cells.length/\(∀ x∈v.cells.toList,x.oneCell'=true)/\∀ (j:Nat) u e,v.cells[j]?=some u->d.cells[j]?=some e->aE V u e:=by
 by_cases ha:∃ cs,d=.agg cs
 ·obtain ⟨cs,rfl⟩:=ha;obtain ⟨vs,rfl,hs,hr⟩:=h.lU;refine ⟨hs,?_,hr⟩;intro x hx;obtain ⟨i,hi⟩:=List.mem_iff_getElem?.1 hx;have hi':vs[i]?=some x:=by simpa [Value.cells] using hi
  have hlt:i < cs.length:=by rw [<- hs];exact (Array.getElem?_eq_some_iff.1 hi').1
  exact (Av (hr i x _ hi' (List.getElem?_eq_getElem hlt)) (hc _ (List.getElem_mem hlt))).1
 ·have hd:d.cells=[d]:=by cases d<;>first | rfl | exact (ha ⟨_,rfl⟩).elim
  rw [hd] at hc |-;obtain ⟨h1,h2⟩:=Av h (hc d (by simp));rw [h2];refine ⟨by simp,by simp [h1],?_⟩;intro j u e hu he;cases j with
  | zero=>simp at hu he;subst hu;subst he;exact h
  | succ j=>simp at he
theorem mz {cs xs:List D} {o:Nat} (h:o+xs.length<=cs.length):(kP cs o xs).length=cs.length:=by simp [kP];omega
theorem xp {cs xs:List D} {o:Nat} (h:o+xs.length<=cs.length) (j:Nat):(kP cs o xs)[j]?=if o<=j/\j < o+xs.length then xs[j-o]? else cs[j]?:=by
 unfold kP;have hl:(cs.take o).length=o:=by simp;omega
 by_cases h1:j < o
 ·rw [if_neg (by omega),List.append_assoc,List.getElem?_append_left (by omega),List.getElem?_take_of_lt h1]
 ·rw [List.append_assoc,List.getElem?_append_right (by omega),hl]
  by_cases h2:j < o+xs.length
  ·rw [if_pos (by omega),List.getElem?_append_left (by omega)]
  ·rw [if_neg (by omega),List.getElem?_append_right (by omega),List.getElem?_drop];congr 1;omega
section
variable {w0 w w':World} {l0:Nat->Option Nat} {G:Nat->Option (Nat × Nat)} {S0:Nat->Option Value} {lev lev' own own':Nat->Option Nat} {S S':Nat->Option Value} {env env':Env} {tm tm':Nat->Value} {B:Nat}
theorem jZ.keep {r:Nat} {d:D} (h:jZ B G w lev own S r d) (hv:mA w lev w' lev') (hS:∀ s,(s=r\/s∈d.names)->∀ u,S s=some u->S' s=some u) (hu:d=.undef->S' r=none)
  (hk:∀ b,own b=some r->lev b=some 0->w'.heap[b]?=w.heap[b]?/\lev' b=lev b/\own' b=own b):jZ B G w' lev' own' S' r d:=by
 cases d<;>try exact h.elim
 case undef=>exact hu rfl
 case box cs =>
  obtain ⟨b,o,c,E,h1,h2,h3,h4,h5,h6,h7⟩:=h;obtain ⟨k1,k2,k3⟩:=hk b h5 h4;refine ⟨b,o,c,E,hS r (.inl rfl) _ h1,k1.trans h2,h3,k2.trans h4,k3.trans h5,h6,?_⟩;intro j u e hu he;refine (h7 j u e hu he).fC hv ?_;intro s hs;exact hS s (.inr (by simp only [D.names];exact dX.2 ⟨e,List.mem_of_getElem? he,hs⟩))
 case own z rows =>
  rcases h with ⟨a,h1,h2⟩ | ⟨b,c,E,cap,h1,h2,h3,h4,h5,h6,h7,h8,h9,h10⟩
  ·exact .inl ⟨a,hS r (.inl rfl) _ h1,h2⟩
  ·obtain ⟨k1,k2,k3⟩:=hk b h8 h7;refine .inr ⟨b,c,E,cap,hS r (.inl rfl) _ h1,k1.trans h2,h3,h4,h5,h6,k2.trans h7,k3.trans h8,h9,?_⟩;intro i j row d hi hj;obtain ⟨u,hu,hr⟩:=h10 i j row d hi hj;refine ⟨u,hu,hr.fC hv ?_⟩;intro s hs;rw [(h6 row (List.mem_of_getElem? hi) d (List.mem_of_getElem? hj)).2] at hs;cases hs
theorem jZ.live {r:Nat} {d:D} (h:jZ B G w lev own S r d) (hd:d≠.undef):∃ v,S r=some v:=by
 cases d<;>try exact h.elim
 case undef=>exact (hd rfl).elim
 case box cs=>obtain ⟨b,o,c,E,h1,_⟩:=h;exact ⟨_,h1⟩
 case own z rows =>
  rcases h with ⟨a,h1,h2⟩ | ⟨b,c,E,cap,h1,_⟩
  ·exact ⟨_,h1⟩
  ·exact ⟨_,h1⟩
theorem Inv.fresh (h:Inv w0 l0 G S0 w lev own S env tm) {r:Nat} (hr:env.o r=.undef):S r=none:=by
 have:=h.objs r;rw [hr] at this;exact this
theorem Inv.put (h:Inv w0 l0 G S0 w lev own S env tm) {s:Nat} {v:Value} {d:D} (hr:aE (cx w lev S) v d):Inv w0 l0 G S0 w lev own S (cy env s d) (Ai tm s v) where
 os:=h.os
 tape:=h.tape
 output:=h.output
 size:=h.size
 old:=h.old
 part:=h.part
 priv:=h.priv
 iy:=h.iy
 K7:=h.K7
 kX:=fun t=>by
  by_cases e:t=s
  ·subst e;rw [FO];simpa [Ai] using hr
  ·rw [Ay e];simpa [Ai,e] using h.kX t
 objs:=h.objs
def iX {α:Type} (f:Nat->Option α) (b:Nat) (x:Option α):Nat->Option α:=fun k=>if k=b then x else f k
theorem dN {α:Type} (f:Nat->Option α) (b:Nat) (x:Option α):iX f b x b=x:=by simp [iX]
theorem eC {α:Type} (f:Nat->Option α) {b k:Nat} (x:Option α) (h:k≠b):iX f b x k=f k:=by simp [iX,h]
theorem Inv.kill (h:Inv w0 l0 G S0 w lev own S env tm) (r:Nat):Inv w0 l0 G S0 w lev own (iX S r none) (jT r env) tm where
 os:=h.os
 tape:=h.tape
 output:=h.output
 size:=h.size
 old:=h.old
 part:=h.part
 priv:=h.priv
 iy:=h.iy
 K7:=fun i hi he=>by
  simp only [jT] at he
  by_cases e:i=r
  ·rw [if_pos e] at he;exact (he rfl).elim
  ·rw [if_neg e] at he;rw [eC _ _ e];refine h.K7 i hi ?_;intro hu;rw [hu] at he;exact he rfl
 kX:=fun s=>by
  simp only [jT];refine ((h.kX s).UX r).fC (.refl _ _) ?_;intro k hk u hu;rw [eC _ _ (qJ r _ k hk).2];exact hu
 objs:=fun k=>by
  by_cases e:k=r
  ·subst e;simp only [jT,if_true];exact dN _ _ _
  ·simp only [jT,e,if_false];have ho:=h.objs k
   have hob:jZ w0.heap.size G w lev own S k ((env.o k).kill r):=by
    cases hd:env.o k<;>rw [hd] at ho<;>try exact ho.elim
    ·exact ho
    ·exact ho
    ·rename_i cs;obtain ⟨b,o,c,E,h1,h2,h3,h4,h5,h6,h7⟩:=ho;simp only [D.kill];refine ⟨b,o,c,E,h1,h2,by rw [ny];simpa using h3,h4,h5,by rw [ny];simpa using h6,?_⟩;intro j u e hu he;rw [ny] at he;simp only [List.getElem?_map] at he;cases hx:cs[j]? with
     | none=>rw [hx] at he;cases he
     | some x=>rw [hx] at he;cases he;exact (h7 j u x hu hx).UX r
   refine hob.keep (.refl _ _) ?_ ?_ (fun _ _ _=>⟨rfl,rfl,rfl⟩)
   ·intro s hs u hu
    have hne:s≠r:=by
     rcases hs with rfl | hs
     ·exact e
     ·exact (qJ r _ s hs).2
    rw [eC _ _ hne];exact hu
   ·intro hd;rw [eC _ _ e];rw [hd] at hob;exact hob
structure Xm (w0:World) (l0:Nat->Option Nat) (G:Nat->Option (Nat × Nat)) (w w':World) (lev':Nat->Option Nat):Prop where
 os:w'.os=w.os
 tape:w'.tape=w.tape
 output:w'.output=w.output
 size:w.heap.size<=w'.heap.size
 old:∀ b,b < w0.heap.size->G b=none->w'.heap[b]?=w.heap[b]?
 part:∀ b lo hi,G b=some (lo,hi)->jH w w' b lo hi
 priv:∀ b m,lev' b=some m->b < w'.heap.size
 iy:∀ b,b < w0.heap.size->G b=none->lev' b=l0 b
theorem jH.trans {b lo hi:Nat} (h1:jH w0 w b lo hi) (h2:jH w w' b lo hi):jH w0 w' b lo hi:=by
 obtain ⟨c0,c,E,a1,a2,a3,a4⟩:=h1;obtain ⟨c',c'',E',b1,b2,b3,b4⟩:=h2;rw [a2] at b1;cases b1;exact ⟨c0,c'',E,a1,b2,b3.trans a3,fun j hj=>(b4 j hj).trans (a4 j hj)⟩
theorem jH.of_same {b lo hi:Nat} (h1:jH w0 w b lo hi) (h:w'.heap[b]?=w.heap[b]?):jH w w' b lo hi:=by
 obtain ⟨c0,c,E,a1,a2,a3,a4⟩:=h1;exact ⟨c,c,E,a2,h.trans a2,rfl,fun _ _=>rfl⟩
theorem Inv.setObj (h:Inv w0 l0 G S0 w lev own S env tm) (hw:Xm w0 l0 G w w' lev') (hv:mA w lev w' lev') {r:Nat} {d:D}
  (hS:∀ s,s≠r->S' s=S s) (hSr:∀ u,S r=some u->S' r=some u) (h16:16<=r\/env.o r≠.undef)
  (hk:∀ b s,s≠r->env.o s≠.undef->own b=some s->lev b=some 0->w'.heap[b]?=w.heap[b]?/\lev' b=lev b/\own' b=own b)
  (ho:jZ w0.heap.size G w' lev' own' S' r d):Inv w0 l0 G S0 w' lev' own' S' (dV env r d) tm:=by
 have hmono:∀ s u,S s=some u->S' s=some u:=by
  intro s u hu
  by_cases e:s=r
  ·subst e;exact hSr u hu
  ·rw [hS s e];exact hu
 refine ⟨⟨hw.os.trans h.os.1,h.os.2⟩,hw.tape.trans h.tape,hw.output.trans h.output,Nat.le_trans h.size hw.size,fun b hb hg=>(hw.old b hb hg).trans (h.old b hb hg),fun b lo hi hg=>(h.part b lo hi hg).trans (hw.part b lo hi hg),hw.priv,hw.iy,?_,?_,?_⟩
 ·intro i hi he
  by_cases e:i=r
  ·subst e
   have hl:env.o i≠.undef:=by
    rcases h16 with h16 | h16
    ·omega
    ·exact h16
   obtain ⟨u,hu⟩:=(h.objs i).live hl;rw [hSr u hu,<- hu];exact h.K7 i hi hl
  ·rw [hS i e];rw [Nn e] at he;exact h.K7 i hi he
 ·intro s;exact (h.kX s).uY hv hmono
 ·intro k
  by_cases e:k=r
  ·subst e;rw [Pk];exact ho
  ·rw [Nn e];have hok:=h.objs k
   by_cases hd:env.o k=.undef
   ·rw [hd] at hok |-
    show S' k=none
    rw [hS k e];exact hok
   ·exact hok.keep hv (fun s _=>hmono s) (fun hd'=>(hd hd').elim) (fun b hb hl=>hk b k e hd hb hl)
end
end Go.Abs
