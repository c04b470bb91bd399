/- How what is known of a frame's slots and objects is kept, step by step; no theorem of a claim. -/
import Derived.Test.YtdklpddmplflgaaDoorAbcMem
set_option linter.unusedSimpArgs false
set_option linter.unusedVariables false
namespace Go.Abs

def updv (tm : Nat → Value) (s : Nat) (v : Value) : Nat → Value := fun t => if t = s then v else tm t
theorem tmOf_set {tmps : Array Value} {s : Nat} (h : s < tmps.size) (v : Value) : tmOf (tmps.setIfInBounds s v) = updv (tmOf tmps) s v := by
  funext t
  simp only [tmOf, updv, Array.getD_eq_getD_getElem?, Array.getElem?_setIfInBounds]
  by_cases e : s = t
  · subst e; simp [h]
  · simp [e, Ne.symm e]

/-! ### writing into a block -/
def writeAt (c : Array Value) (o : Nat) : List Value → Array Value
  | [] => c
  | v :: r => writeAt (c.setIfInBounds o v) (o + 1) r
theorem writeAt_size : ∀ (vs : List Value) (c : Array Value) (o : Nat), (writeAt c o vs).size = c.size
  | [], _, _ => rfl
  | v :: r, c, o => by simp [writeAt, writeAt_size r]
theorem writeAt_get : ∀ (vs : List Value) (c : Array Value) (o j : Nat), o + vs.length ≤ c.size →
    (writeAt c o vs)[j]? = if o ≤ j ∧ j < o + vs.length then vs[j - o]? else c[j]?
  | [], c, o, j, _ => by
    have : ¬ (o ≤ j ∧ j < o + ([] : List Value).length) := by simp only [List.length_nil]; omega
    simp only [writeAt, if_neg this]
  | v :: r, c, o, j, h => by
    simp only [List.length_cons] at h
    rw [writeAt, writeAt_get r _ _ j (by simp; omega)]
    by_cases h1 : o + 1 ≤ j ∧ j < o + 1 + r.length
    · rw [if_pos h1, if_pos (by simp only [List.length_cons]; omega)]
      have : j - o = (j - (o + 1)) + 1 := by omega
      rw [this]; simp
    · rw [if_neg h1]
      by_cases h2 : j = o
      · subst h2
        have hlt : j < c.size := by omega
        rw [if_pos (by simp only [List.length_cons]; omega)]
        simp [hlt]
      · rw [if_neg (by simp only [List.length_cons]; omega)]
        rw [Array.getElem?_setIfInBounds_ne (by omega)]

def setBlk (w : World) (b : Nat) (c : Array Value) (E : TypeId) : World := { w with heap := w.heap.setIfInBounds b (.cells c E (0, 0)) }
theorem setBlk_size (w : World) (b : Nat) (c : Array Value) (E : TypeId) : (setBlk w b c E).heap.size = w.heap.size := by simp [setBlk]
theorem setBlk_same {w : World} {b : Nat} (h : b < w.heap.size) (c : Array Value) (E : TypeId) : (setBlk w b c E).heap[b]? = some (.cells c E (0, 0)) := by simp [setBlk, h]
theorem setBlk_ne {w : World} {b k : Nat} (h : k ≠ b) (c : Array Value) (E : TypeId) : (setBlk w b c E).heap[k]? = w.heap[k]? := by
  simp [setBlk, Array.getElem?_setIfInBounds_ne (Ne.symm h)]
theorem setBlk_cell_ne {w : World} {b : Nat} {a : Addr} (h : a.block ≠ b) (c : Array Value) (E : TypeId) : (setBlk w b c E).cell? a = w.cell? a := by
  simp [World.cell?, setBlk_ne h]
theorem lt_of_block {w : World} {b : Nat} {o : Obj} (h : w.heap[b]? = some o) : b < w.heap.size := (Array.getElem?_eq_some_iff.1 h).1

theorem run_storeCells {P : Program} (b o : Nat) (E : TypeId) : ∀ (vs : List Value) (i : Nat) (c : Array Value) (w : World), w.heap[b]? = some (.cells c E (0, 0)) → o + i + vs.length ≤ c.size →
    (∀ v ∈ vs, v.oneCell' = true) → (storeCells ⟨b, o, none⟩ vs i).run P w = .ok () (setBlk w b (writeAt c (o + i) vs) E)
  | [], i, c, w, hb, _, _ => by
    have : setBlk w b c E = w := by
      have hlt := lt_of_block hb
      have hg : w.heap[b] = .cells c E (0, 0) := by simpa [Array.getElem?_eq_getElem hlt] using hb
      cases w with
      | mk heap tape drawn os out =>
        simp only [setBlk] at *
        congr 1
        apply Array.ext_getElem?
        intro k
        rw [Array.getElem?_setIfInBounds]
        by_cases e : b = k
        · subst e; rw [if_pos rfl, if_pos hlt, hb]
        · rw [if_neg e]
    simp [storeCells, writeAt, Sem.run, pure, this]
  | v :: r, i, c, w, hb, hl, h1 => by
    simp only [List.length_cons] at hl
    have hlt : o + i < c.size := by omega
    have hcell : w.cell? ((⟨b, o, none⟩ : Addr).add i) = some c[o + i] := by rw [add_off, cell_at w b _ hb]; simp [hlt]
    have hfz : w.frozen? ((⟨b, o, none⟩ : Addr).add i) = false := by rw [add_off]; simp [World.frozen?, hb]
    have hone := h1 v (by simp)
    have hset : w.setCell ((⟨b, o, none⟩ : Addr).add i) v = setBlk w b (c.setIfInBounds (o + i) v) E := by
      rw [add_off]
      have hbl := lt_of_block hb
      have hg : w.heap[b] = .cells c E (0, 0) := by simpa [Array.getElem?_eq_getElem hbl] using hb
      simp only [World.setCell, setBlk]
      congr 1
      apply Array.ext_getElem?
      intro k
      rw [Array.getElem?_setIfInBounds, Array.getElem?_modify]
      by_cases e : b = k
      · subst e; rw [if_pos rfl, if_pos rfl, if_pos hbl, hb]; simp
      · rw [if_neg e, if_neg e]
    have hst : (store ((⟨b, o, none⟩ : Addr).add i) v).run P w = .ok () (setBlk w b (c.setIfInBounds (o + i) v) E) := by
      rw [← hset]
      simp only [store]
      cases v <;> first | (simp [Value.oneCell'] at hone; done) | simp [Sem.run, hcell, hfz]
    have ih := run_storeCells (P := P) b o E r (i + 1) (c.setIfInBounds (o + i) v) (setBlk w b (c.setIfInBounds (o + i) v) E) (setBlk_same (lt_of_block hb) _ _)
      (by simp; omega) (fun x hx => h1 x (by simp [hx]))
    simp only [storeCells, Sem.run_bind, hst]
    have e : setBlk (setBlk w b (c.setIfInBounds (o + i) v) E) b (writeAt (c.setIfInBounds (o + i) v) (o + (i + 1)) r) E = setBlk w b (writeAt c (o + i) (v :: r)) E := by
      simp [setBlk, writeAt, Nat.add_assoc]
    rw [← e, ← ih]
    rfl


theorem rep_one {V : Cx} {v : Value} {d : D} (h : RepV V v d) (hc : cellOk d) : v.oneCell' = true ∧ v.cells = #[v] := by
  cases h <;> first | exact hc.elim | exact ⟨rfl, rfl⟩
/-- the cells of a value and of its datum -/
theorem rep_cellsOf {V : Cx} {v : Value} {d : D} (h : RepV V v d) (hc : ∀ c ∈ d.cells, cellOk c) :
    v.cells.size = d.cells.length ∧ (∀ x ∈ v.cells.toList, x.oneCell' = true) ∧ ∀ (j : Nat) u e, v.cells[j]? = some u → d.cells[j]? = some e → RepV V u e := by
  by_cases ha : ∃ cs, d = .agg cs
  · obtain ⟨cs, rfl⟩ := ha
    obtain ⟨vs, rfl, hs, hr⟩ := h.agg_inv
    refine ⟨hs, ?_, hr⟩
    intro x hx
    obtain ⟨i, hi⟩ := List.mem_iff_getElem?.1 hx
    have hi' : vs[i]? = some x := by simpa [Value.cells] using hi
    have hlt : i < cs.length := by rw [← hs]; exact (Array.getElem?_eq_some_iff.1 hi').1
    exact (rep_one (hr i x _ hi' (List.getElem?_eq_getElem hlt)) (hc _ (List.getElem_mem hlt))).1
  · have hd : d.cells = [d] := by cases d <;> first | rfl | exact (ha ⟨_, rfl⟩).elim
    rw [hd] at hc ⊢
    obtain ⟨h1, h2⟩ := rep_one h (hc d (by simp))
    rw [h2]
    refine ⟨by simp, by simp [h1], ?_⟩
    intro j u e hu he
    cases j with
    | zero => simp at hu he; subst hu; subst he; exact h
    | succ j => simp at he
theorem names_cells {d e : D} (h : e ∈ d.cells) {s : Nat} (hs : s ∈ e.names) : s ∈ d.names := by
  by_cases ha : ∃ cs, d = .agg cs
  · obtain ⟨cs, rfl⟩ := ha
    simp only [D.names]
    exact namesL_mem.2 ⟨e, h, hs⟩
  · have hd : d.cells = [d] := by cases d <;> first | rfl | exact (ha ⟨_, rfl⟩).elim
    rw [hd] at h
    simp at h
    subst h; exact hs

theorem wput_length {cs xs : List D} {o : Nat} (h : o + xs.length ≤ cs.length) : (wput cs o xs).length = cs.length := by simp [wput]; omega
theorem wput_get {cs xs : List D} {o : Nat} (h : o + xs.length ≤ cs.length) (j : Nat) : (wput cs o xs)[j]? = if o ≤ j ∧ j < o + xs.length then xs[j - o]? else cs[j]? := by
  unfold wput
  have hl : (cs.take o).length = o := by simp; omega
  by_cases h1 : j < o
  · rw [if_neg (by omega), List.append_assoc, List.getElem?_append_left (by omega), List.getElem?_take_of_lt h1]
  · rw [List.append_assoc, List.getElem?_append_right (by omega), hl]
    by_cases h2 : j < o + xs.length
    · rw [if_pos (by omega), List.getElem?_append_left (by omega)]
    · rw [if_neg (by omega), List.getElem?_append_right (by omega), List.getElem?_drop]
      congr 1; omega


section
variable {w0 w w' : World} {l0 : Nat → Option Nat} {G : Nat → Option (Nat × Nat)} {S0 : Nat → Option Value} {lev lev' own own' : Nat → Option Nat} {S S' : Nat → Option Value} {env env' : Env} {tm tm' : Nat → Value} {B : Nat}

theorem ObjAt.keep {r : Nat} {d : D} (h : ObjAt B G w lev own S r d) (hv : VisLe w lev w' lev') (hS : ∀ s, (s = r ∨ s ∈ d.names) → ∀ u, S s = some u → S' s = some u) (hu : d = .undef → S' r = none)
    (hk : ∀ b, own b = some r → lev b = some 0 → w'.heap[b]? = w.heap[b]? ∧ lev' b = lev b ∧ own' b = own b) : ObjAt B G w' lev' own' S' r d := by
  cases d <;> try exact h.elim
  case undef => exact hu rfl
  case box cs =>
    obtain ⟨b, o, c, E, h1, h2, h3, h4, h5, h6, h7⟩ := h
    obtain ⟨k1, k2, k3⟩ := hk b h5 h4
    refine ⟨b, o, c, E, hS r (.inl rfl) _ h1, k1.trans h2, h3, k2.trans h4, k3.trans h5, h6, ?_⟩
    intro j u e hu he
    refine (h7 j u e hu he).vkeep hv ?_
    intro s hs
    exact hS s (.inr (by simp only [D.names]; exact namesL_mem.2 ⟨e, List.mem_of_getElem? he, hs⟩))
  case own z rows =>
    rcases h with ⟨a, h1, h2⟩ | ⟨b, c, E, cap, h1, h2, h3, h4, h5, h6, h7, h8, h9, h10⟩
    · exact .inl ⟨a, hS r (.inl rfl) _ h1, h2⟩
    · obtain ⟨k1, k2, k3⟩ := hk b h8 h7
      refine .inr ⟨b, c, E, cap, hS r (.inl rfl) _ h1, k1.trans h2, h3, h4, h5, h6, k2.trans h7, k3.trans h8, h9, ?_⟩
      intro i j row d hi hj
      obtain ⟨u, hu, hr⟩ := h10 i j row d hi hj
      refine ⟨u, hu, hr.vkeep hv ?_⟩
      intro s hs
      rw [(h6 row (List.mem_of_getElem? hi) d (List.mem_of_getElem? hj)).2] at hs
      cases hs

/-- what a live object's head is: never nothing -/
theorem ObjAt.live {r : Nat} {d : D} (h : ObjAt B G w lev own S r d) (hd : d ≠ .undef) : ∃ v, S r = some v := by
  cases d <;> try exact h.elim
  case undef => exact (hd rfl).elim
  case box cs => obtain ⟨b, o, c, E, h1, _⟩ := h; exact ⟨_, h1⟩
  case own z rows =>
    rcases h with ⟨a, h1, h2⟩ | ⟨b, c, E, cap, h1, _⟩
    · exact ⟨_, h1⟩
    · exact ⟨_, h1⟩
theorem Inv.fresh (h : Inv w0 l0 G S0 w lev own S env tm) {r : Nat} (hr : env.o r = .undef) : S r = none := by
  have := h.objs r
  rw [hr] at this
  exact this

/-- A value goes into a slot. -/
theorem Inv.put (h : Inv w0 l0 G S0 w lev own S env tm) {s : Nat} {v : Value} {d : D} (hr : RepV (cx w lev S) v d) : Inv w0 l0 G S0 w lev own S (updT env s d) (updv tm s v) where
  os := h.os
  tape := h.tape
  output := h.output
  size := h.size
  old := h.old
  part := h.part
  priv := h.priv
  levOld := h.levOld
  ent := h.ent
  temps := fun t => by
    by_cases e : t = s
    · subst e; rw [updT_same]; simpa [updv] using hr
    · rw [updT_ne e]; simpa [updv, e] using h.temps t
  objs := h.objs

def setO {α : Type} (f : Nat → Option α) (b : Nat) (x : Option α) : Nat → Option α := fun k => if k = b then x else f k
theorem setO_same {α : Type} (f : Nat → Option α) (b : Nat) (x : Option α) : setO f b x b = x := by simp [setO]
theorem setO_ne {α : Type} (f : Nat → Option α) {b k : Nat} (x : Option α) (h : k ≠ b) : setO f b x k = f k := by simp [setO, h]

/-- Object r is forgotten, and all that names it. -/
theorem Inv.kill (h : Inv w0 l0 G S0 w lev own S env tm) (r : Nat) : Inv w0 l0 G S0 w lev own (setO S r none) (killE r env) tm where
  os := h.os
  tape := h.tape
  output := h.output
  size := h.size
  old := h.old
  part := h.part
  priv := h.priv
  levOld := h.levOld
  ent := fun i hi he => by
    simp only [killE] at he
    by_cases e : i = r
    · rw [if_pos e] at he; exact (he rfl).elim
    · rw [if_neg e] at he
      rw [setO_ne _ _ e]
      refine h.ent i hi ?_
      intro hu
      rw [hu] at he
      exact he rfl
  temps := fun s => by
    simp only [killE]
    refine ((h.temps s).kill0 r).vkeep (.refl _ _) ?_
    intro k hk u hu
    rw [setO_ne _ _ (names_kill r _ k hk).2]; exact hu
  objs := fun k => by
    by_cases e : k = r
    · subst e
      simp only [killE, if_true]
      exact setO_same _ _ _
    · simp only [killE, e, if_false]
      have ho := h.objs k
      have hob : ObjAt w0.heap.size G w lev own S k ((env.o k).kill r) := by
        cases hd : env.o k <;> rw [hd] at ho <;> try exact ho.elim
        · exact ho
        · exact ho
        · rename_i cs
          obtain ⟨b, o, c, E, h1, h2, h3, h4, h5, h6, h7⟩ := ho
          simp only [D.kill]
          refine ⟨b, o, c, E, h1, h2, by rw [killL_map]; simpa using h3, h4, h5, by rw [killL_map]; simpa using h6, ?_⟩
          intro j u e hu he
          rw [killL_map] at he
          simp only [List.getElem?_map] at he
          cases hx : cs[j]? with
          | none => rw [hx] at he; cases he
          | some x => rw [hx] at he; cases he; exact (h7 j u x hu hx).kill0 r
      refine hob.keep (.refl _ _) ?_ ?_ (fun _ _ _ => ⟨rfl, rfl, rfl⟩)
      · intro s hs u hu
        have hne : s ≠ r := by
          rcases hs with rfl | hs
          · exact e
          · exact (names_kill r _ s hs).2
        rw [setO_ne _ _ hne]; exact hu
      · intro hd
        rw [setO_ne _ _ e]
        rw [hd] at hob
        exact hob

/-- The world goes on: what all steps ask. -/
structure Went (w0 : World) (l0 : Nat → Option Nat) (G : Nat → Option (Nat × Nat)) (w w' : World) (lev' : Nat → Option Nat) : Prop where
  os : w'.os = w.os
  tape : w'.tape = w.tape
  output : w'.output = w.output
  size : w.heap.size ≤ w'.heap.size
  old : ∀ b, b < w0.heap.size → G b = none → w'.heap[b]? = w.heap[b]?
  part : ∀ b lo hi, G b = some (lo, hi) → PartAt w w' b lo hi
  priv : ∀ b m, lev' b = some m → b < w'.heap.size
  levOld : ∀ b, b < w0.heap.size → G b = none → lev' b = l0 b
theorem PartAt.trans {b lo hi : Nat} (h1 : PartAt w0 w b lo hi) (h2 : PartAt w w' b lo hi) : PartAt w0 w' b lo hi := by
  obtain ⟨c0, c, E, a1, a2, a3, a4⟩ := h1
  obtain ⟨c', c'', E', b1, b2, b3, b4⟩ := h2
  rw [a2] at b1
  cases b1
  exact ⟨c0, c'', E, a1, b2, b3.trans a3, fun j hj => (b4 j hj).trans (a4 j hj)⟩
theorem PartAt.of_same {b lo hi : Nat} (h1 : PartAt w0 w b lo hi) (h : w'.heap[b]? = w.heap[b]?) : PartAt w w' b lo hi := by
  obtain ⟨c0, c, E, a1, a2, a3, a4⟩ := h1
  exact ⟨c, c, E, a2, h.trans a2, rfl, fun _ _ => rfl⟩

/-- A step that sets one object, and the world with it. -/
theorem Inv.setObj (h : Inv w0 l0 G S0 w lev own S env tm) (hw : Went w0 l0 G w w' lev') (hv : VisLe w lev w' lev') {r : Nat} {d : D}
    (hS : ∀ s, s ≠ r → S' s = S s) (hSr : ∀ u, S r = some u → S' r = some u) (h16 : 16 ≤ r ∨ env.o r ≠ .undef)
    (hk : ∀ b s, s ≠ r → env.o s ≠ .undef → own b = some s → lev b = some 0 → w'.heap[b]? = w.heap[b]? ∧ lev' b = lev b ∧ own' b = own b)
    (ho : ObjAt w0.heap.size G w' lev' own' S' r d) : Inv w0 l0 G S0 w' lev' own' S' (updO env r d) tm := by
  have hmono : ∀ s u, S s = some u → S' s = some u := by
    intro s u hu
    by_cases e : s = r
    · subst e; exact hSr u hu
    · rw [hS s e]; exact hu
  refine ⟨⟨hw.os.trans h.os.1, h.os.2⟩, hw.tape.trans h.tape, hw.output.trans h.output, Nat.le_trans h.size hw.size, fun b hb hg => (hw.old b hb hg).trans (h.old b hb hg), fun b lo hi hg => (h.part b lo hi hg).trans (hw.part b lo hi hg), hw.priv, hw.levOld, ?_, ?_, ?_⟩
  · intro i hi he
    by_cases e : i = r
    · subst e
      have hl : env.o i ≠ .undef := by
        rcases h16 with h16 | h16
        · omega
        · exact h16
      obtain ⟨u, hu⟩ := (h.objs i).live hl
      rw [hSr u hu, ← hu]
      exact h.ent i hi hl
    · rw [hS i e]
      rw [updO_ne e] at he
      exact h.ent i hi he
  · intro s
    exact (h.temps s).vmono hv hmono
  · intro k
    by_cases e : k = r
    · subst e; rw [updO_same]; exact ho
    · rw [updO_ne e]
      have hok := h.objs k
      by_cases hd : env.o k = .undef
      · rw [hd] at hok ⊢
        show S' k = none
        rw [hS k e]
        exact hok
      · exact hok.keep hv (fun s _ => hmono s) (fun hd' => (hd hd').elim) (fun b hb hl => hk b k e hd hb hl)
end
end Go.Abs
