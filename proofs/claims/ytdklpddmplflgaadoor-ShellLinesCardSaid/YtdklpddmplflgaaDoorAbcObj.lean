/- Stores into objects, new objects, objects that are let go; no theorem of a claim. -/
import Derived.Test.YtdklpddmplflgaaDoorAbcInv
set_option linter.unusedSimpArgs false
set_option linter.unusedVariables false
namespace Go.Abs

section
variable {P : Program} {w0 w w' : World} {l0 : Nat → Option Nat} {G : Nat → Option (Nat × Nat)} {S0 : Nat → Option Value} {lev lev' own own' : Nat → Option Nat} {S S' : Nat → Option Value} {env env' : Env} {tm tm' : Nat → Value} {B : Nat}

theorem InG.mono {b lo hi lo' hi' : Nat} (h : InG G B b lo hi) (h1 : lo ≤ lo') (h2 : hi' ≤ hi) : InG G B b lo' hi' := by
  rcases h with h | ⟨l, m, hg, ha, hb⟩
  · exact .inl h
  · exact .inr ⟨l, m, hg, by omega, by omega⟩
theorem visLe_setBlk {b : Nat} {c : Array Value} {E : TypeId} (hl : lev b = some 0) : VisLe w lev (setBlk w b c E) lev := by
  intro a u hu
  have hab : a.block ≠ b := by
    rintro rfl
    unfold vis at hu
    rw [hl] at hu
    simp at hu
  unfold vis at hu ⊢
  rw [setBlk_cell_ne hab]
  exact hu
theorem went_setBlk (h : Inv w0 l0 G S0 w lev own S env tm) {b : Nat} {c c' : Array Value} {E : TypeId} (hb : w.heap[b]? = some (.cells c E (0, 0))) (hs : c'.size = c.size) {lo hi : Nat} (hg : InG G w0.heap.size b lo hi)
    (hout : ∀ j, (j < lo ∨ hi ≤ j) → c'[j]? = c[j]?) : Went w0 l0 G w (setBlk w b c' E) lev := by
  refine ⟨rfl, rfl, rfl, Nat.le_of_eq (setBlk_size _ _ _ _).symm, ?_, ?_, ?_, h.levOld⟩
  · intro k hk hG
    refine setBlk_ne ?_ _ _
    rintro rfl
    rcases hg with hm | ⟨l, m, hm, _⟩
    · omega
    · rw [hG] at hm; cases hm
  · intro k l m hG
    have hp := h.part k l m hG
    by_cases e : k = b
    · subst e
      rcases hg with hm | ⟨l', m', hm, h1, h2⟩
      · obtain ⟨c0, _, _, hc0, _⟩ := hp
        have := lt_of_block hc0
        omega
      · rw [hG] at hm
        cases hm
        exact ⟨c, c', E, hb, setBlk_same (lt_of_block hb) _ _, hs, fun j hj => hout j (by omega)⟩
    · exact hp.of_same (setBlk_ne e _ _)
  · intro k m hm
    rw [setBlk_size]; exact h.priv k m hm

/-- a store of a value into the cells of a box -/
theorem Inv.storeBox (h : Inv w0 l0 G S0 w lev own S env tm) {r off : Nat} {cs : List D} (he : env.o r = .box cs) {t : TypeId} {l : Lay} (hl : layT P t = some l) {v : Value} {d : D}
    (hrep : RepV (cx w lev S) v d) (hc : ∀ c ∈ d.cells, cellOk c) (hsz : d.cells.length = l.sz) (hoff : off + l.sz ≤ cs.length) {a : Value} (ha : RepV (cx w lev S) a (.addr r off)) :
    ∃ w', (Instr.storeAt t a v).run P w = .ok () w' ∧ Inv w0 l0 G S0 w' lev own S (updO env r (.box (wput cs off d.cells))) tm := by
  have hobj := h.objs r
  rw [he] at hobj
  obtain ⟨b, o, c, E, h1, h2, h3, h4, h5, h6, h7⟩ := hobj
  obtain ⟨ad, ha1, rfl⟩ := ha.addr_inv
  have : ad = ⟨b, o, none⟩ := by simp only [cx] at ha1; rw [h1] at ha1; cases ha1; rfl
  subst this
  obtain ⟨hsz1, hone, hrc⟩ := rep_cellsOf hrep hc
  have hlen : (o + off) + v.cells.toList.length ≤ c.size := by simp; omega
  have hget : ∀ j, (writeAt c (o + off) v.cells.toList)[j]? = if o + off ≤ j ∧ j < o + off + d.cells.length then v.cells[j - (o + off)]? else c[j]? := by
    intro j
    rw [writeAt_get _ _ _ _ hlen]
    have hlv : v.cells.toList.length = d.cells.length := by simpa using hsz1
    rw [hlv]; simp
  refine ⟨setBlk w b (writeAt c (o + off) v.cells.toList) E, ?_, ?_⟩
  · have := run_storeCells (P := P) b (o + off) E v.cells.toList 0 c w h2 (by simp; omega) hone
    simp only [Nat.add_zero] at this
    simp [Instr.storeAt, Instr.sureAddr, storeVar, Sem.run_bind, run_lsize hl, hsz1, hsz, Sem.run, pure, add_off, this]
  have hvl : VisLe w lev (setBlk w b (writeAt c (o + off) v.cells.toList) E) lev := visLe_setBlk h4
  refine h.setObj (went_setBlk h h2 (writeAt_size _ _ _) h6 ?_) hvl (fun _ _ => rfl) (fun _ h => h) (.inr (by rw [he]; simp)) ?_ ?_
  · intro j hj
    rw [hget, if_neg (by omega)]
  · intro b' s hs _ hb' _
    have : b' ≠ b := by
      rintro rfl
      rw [h5] at hb'; cases hb'; exact hs rfl
    exact ⟨setBlk_ne this _ _, rfl, rfl⟩
  · have hwl : (wput cs off d.cells).length = cs.length := wput_length (by omega)
    refine ⟨b, o, _, E, h1, setBlk_same (lt_of_block h2) _ _, by rw [writeAt_size, hwl]; exact h3, h4, h5, by rw [hwl]; exact h6, ?_⟩
    intro j u e hu he'
    rw [hget] at hu
    rw [wput_get (by omega)] at he'
    by_cases hj : off ≤ j ∧ j < off + d.cells.length
    · rw [if_pos (by omega)] at hu
      rw [if_pos hj] at he'
      have e1 : o + j - (o + off) = j - off := by omega
      rw [e1] at hu
      exact (hrc _ u e hu he').vmono hvl fun _ _ h => h
    · rw [if_neg (by omega)] at hu
      rw [if_neg hj] at he'
      exact (h7 j u e hu he').vmono hvl fun _ _ h => h

theorem idx_lt {i j z m : Nat} (hj : j < z) (hi : i < m) : i * z + j < m * z := by
  have : (i + 1) * z ≤ m * z := Nat.mul_le_mul_right z hi
  rw [Nat.succ_mul] at this
  omega
theorem idx_inj {i j i' j' z : Nat} (hj : j < z) (hj' : j' < z) (h : i * z + j = i' * z + j') : i = i' ∧ j = j' := by
  have h1 : (i * z + j) / z = i := by rw [Nat.mul_comm, Nat.mul_add_div (by omega), Nat.div_eq_of_lt hj]; rfl
  have h2 : (i' * z + j') / z = i' := by rw [Nat.mul_comm, Nat.mul_add_div (by omega), Nat.div_eq_of_lt hj']; rfl
  have : i = i' := by rw [← h1, ← h2, h]
  subst this
  exact ⟨rfl, by omega⟩

/-- a store of a value into an element of a slice of the frame's own -/
theorem Inv.storeOwn (h : Inv w0 l0 G S0 w lev own S env tm) {r z i k : Nat} {rows : List (List D)} (he : env.o r = .own z rows) {t : TypeId} {l : Lay} (hl : layT P t = some l) {v : Value} {d : D}
    (hrep : RepV (cx w lev S) v d) (hc : ∀ c ∈ d.cells, permOk c) (hsz : d.cells.length = l.sz) (hi : i < rows.length) (hk : k + l.sz ≤ z) {a : Value} (ha : RepV (cx w lev S) a (.oaddr r z i k)) :
    ∃ w', (Instr.storeAt t a v).run P w = .ok () w' ∧ Inv w0 l0 G S0 w' lev own S (updO env r (.own z (rows.set i (wput (rows.getD i []) k d.cells)))) tm := by
  have hobj := h.objs r
  rw [he] at hobj
  rcases hobj with ⟨_, _, hnil⟩ | ⟨b, c, E, cap, h1, h2, h3, h4, h5, h6, h7, h8, h9, h10⟩
  · rw [hnil] at hi; simp at hi
  obtain ⟨ad, len', cap', ha1, rfl⟩ := ha.oaddr_inv
  have : ad = ⟨b, 0, none⟩ := by simp only [cx] at ha1; rw [h1] at ha1; cases ha1; rfl
  subst this
  obtain ⟨hsz1, hone, hrc⟩ := rep_cellsOf hrep (fun c hx => (hc c hx).1)
  have hrow : rows.getD i [] = rows[i] := by simp [List.getD, hi]
  have hrl : rows[i].length = z := h5 _ (List.getElem_mem hi)
  have hiz : (i + 1) * z ≤ cap * z := Nat.mul_le_mul_right z (by omega)
  rw [Nat.succ_mul] at hiz
  have hlen : (i * z + k) + v.cells.toList.length ≤ c.size := by simp; omega
  have hget : ∀ j, (writeAt c (i * z + k) v.cells.toList)[j]? = if i * z + k ≤ j ∧ j < i * z + k + d.cells.length then v.cells[j - (i * z + k)]? else c[j]? := by
    intro j
    rw [writeAt_get _ _ _ _ hlen]
    have hlv : v.cells.toList.length = d.cells.length := by simpa using hsz1
    rw [hlv]; simp
  refine ⟨setBlk w b (writeAt c (i * z + k) v.cells.toList) E, ?_, ?_⟩
  · have := run_storeCells (P := P) b (i * z + k) E v.cells.toList 0 c w h2 (by simp; omega) hone
    simp only [Nat.add_zero] at this
    simp [Instr.storeAt, Instr.sureAddr, storeVar, Sem.run_bind, run_lsize hl, hsz1, hsz, Sem.run, pure, add_off, this]
  have hvl : VisLe w lev (setBlk w b (writeAt c (i * z + k) v.cells.toList) E) lev := visLe_setBlk h7
  refine h.setObj (went_setBlk h h2 (writeAt_size _ _ _) h9 ?_) hvl (fun _ _ => rfl) (fun _ h => h) (.inr (by rw [he]; simp)) ?_ ?_
  · intro j hj
    rw [hget, if_neg (by omega)]
  · intro b' s hs _ hb' _
    have : b' ≠ b := by
      rintro rfl
      rw [h8] at hb'; cases hb'; exact hs rfl
    exact ⟨setBlk_ne this _ _, rfl, rfl⟩
  · rw [hrow]
    have hwl : (wput rows[i] k d.cells).length = z := by rw [wput_length (by omega)]; exact hrl
    have hmem : ∀ row ∈ rows.set i (wput rows[i] k d.cells), row ∈ rows ∨ row = wput rows[i] k d.cells := fun row h => List.mem_or_eq_of_mem_set h
    refine .inr ⟨b, _, E, cap, by rw [List.length_set]; exact h1, setBlk_same (lt_of_block h2) _ _, by rw [writeAt_size]; exact h3, by rw [List.length_set]; exact h4, ?_, ?_, h7, h8, by rw [writeAt_size]; exact h9, ?_⟩
    · intro row hm
      rcases hmem row hm with hm | rfl
      · exact h5 row hm
      · exact hwl
    · intro row hm x hx
      rcases hmem row hm with hm | rfl
      · exact h6 row hm x hx
      · unfold wput at hx
        rcases List.mem_append.1 hx with hx | hx
        · rcases List.mem_append.1 hx with hx | hx
          · exact h6 _ (List.getElem_mem hi) x (List.mem_of_mem_take hx)
          · exact hc x hx
        · exact h6 _ (List.getElem_mem hi) x (List.mem_of_mem_drop hx)
    · intro i' j row x hrow' hx
      have hjz : j < z := by
        have : row.length = z := by
          rcases hmem row (List.mem_of_getElem? hrow') with hm | rfl
          · exact h5 row hm
          · exact hwl
        rw [← this]; exact (List.getElem?_eq_some_iff.1 hx).1
      rw [hget]
      by_cases hii : i' = i
      · subst hii
        rw [List.getElem?_set_self hi] at hrow'
        cases hrow'
        rw [wput_get (by omega)] at hx
        by_cases hj : k ≤ j ∧ j < k + d.cells.length
        · rw [if_pos hj] at hx
          rw [if_pos (by omega)]
          have e1 : i' * z + j - (i' * z + k) = j - k := by omega
          rw [e1]
          have hlt : j - k < v.cells.size := by omega
          exact ⟨v.cells[j - k], by simp [hlt], (hrc _ _ x (by simp [hlt]) hx).vmono hvl fun _ _ h => h⟩
        · rw [if_neg hj] at hx
          rw [if_neg (by omega)]
          obtain ⟨u, hu, hru⟩ := h10 i' j rows[i'] x (List.getElem?_eq_getElem hi) hx
          exact ⟨u, hu, hru.vmono hvl fun _ _ h => h⟩
      · rw [List.getElem?_set_ne (Ne.symm hii)] at hrow'
        obtain ⟨u, hu, hru⟩ := h10 i' j row x hrow' hx
        refine ⟨u, ?_, hru.vmono hvl fun _ _ h => h⟩
        rw [if_neg ?_]
        · exact hu
        · rintro ⟨g1, g2⟩
          have e2 : i' * z + j = i * z + (i' * z + j - i * z) := by omega
          exact hii (idx_inj hjz (by omega) e2).1

/-! ### new objects -/
theorem heap_alloc_old (w : World) (o : Obj) {b : Nat} (h : b < w.heap.size) : (w.alloc o).heap[b]? = w.heap[b]? := Go.RowKit.Below.heap_alloc w o b h
theorem heap_alloc_new (w : World) (o : Obj) : (w.alloc o).heap[w.heap.size]? = some o := by show (w.heap.push _)[w.heap.size]? = _; simp
theorem lev_new (h : Inv w0 l0 G S0 w lev own S env tm) : lev w.heap.size = none := by
  cases e : lev w.heap.size with
  | none => rfl
  | some m => have := h.priv _ _ e; omega
theorem went_alloc (h : Inv w0 l0 G S0 w lev own S env tm) (o : Obj) (x : Option Nat) : Went w0 l0 G w (w.alloc o) (setO lev w.heap.size x) := by
  refine ⟨rfl, rfl, rfl, by simp, ?_, ?_, ?_, ?_⟩
  · intro b hb _; exact heap_alloc_old w o (by have := h.size; omega)
  · intro b lo hi hg
    have hp := h.part b lo hi hg
    refine hp.of_same (heap_alloc_old w o ?_)
    obtain ⟨_, _, _, _, hb, _⟩ := hp
    exact lt_of_block hb
  · intro b m e
    by_cases hb : b = w.heap.size
    · subst hb; simp
    · rw [setO_ne _ _ hb] at e
      have := h.priv b m e
      simp; omega
  · intro b hb hg
    rw [setO_ne _ _ (by have := h.size; omega)]
    exact h.levOld b hb hg
theorem visLe_alloc (w : World) (lev : Nat → Option Nat) (o : Obj) (x : Option Nat) : VisLe w lev (w.alloc o) (setO lev w.heap.size x) := by
  intro a u hu
  have hlt := World.block_lt_of_cell? _ _ (vis_cell hu)
  have hne : a.block ≠ w.heap.size := by omega
  unfold vis at hu ⊢
  rw [setO_ne _ _ hne, World.cell?_of_block (w := w) (heap_alloc_old w o hlt)]
  exact hu

/-- a new block becomes object r -/
theorem Inv.newObj (h : Inv w0 l0 G S0 w lev own S env tm) {r : Nat} (h16 : 16 ≤ r) (hf : env.o r = .undef) {vs : Array Value} (T : TypeId) {d : D} {hd : Value}
    (ho : ∀ lev' own' S', VisLe w lev (w.alloc (.cells vs T)) lev' → (∀ s u, S s = some u → S' s = some u) → S' r = some hd → (w.alloc (.cells vs T)).heap[w.heap.size]? = some (.cells vs T (0, 0)) → lev' w.heap.size = some 0 → own' w.heap.size = some r → (∀ lo hi, InG G w0.heap.size w.heap.size lo hi) →
      ObjAt w0.heap.size G (w.alloc (.cells vs T)) lev' own' S' r d) :
    Inv w0 l0 G S0 (w.alloc (.cells vs T)) (setO lev w.heap.size (some 0)) (setO own w.heap.size (some r)) (setO S r (some hd)) (updO env r d) tm := by
  have hS := h.fresh hf
  refine h.setObj (went_alloc h _ _) (visLe_alloc _ _ _ _) (fun s hs => setO_ne _ _ hs) (fun u hu => by rw [hS] at hu; cases hu) (.inl h16) ?_ ?_
  · intro b s hs _ hb hl
    have hlt := h.priv b 0 hl
    have hne : b ≠ w.heap.size := by omega
    exact ⟨heap_alloc_old w _ hlt, setO_ne _ _ hne, setO_ne _ _ hne⟩
  · refine ho _ _ _ (visLe_alloc _ _ _ _) ?_ (setO_same _ _ _) (heap_alloc_new _ _) (setO_same _ _ _) (setO_same _ _ _) (fun _ _ => .inl h.size)
    intro s u hu
    by_cases e : s = r
    · subst e; rw [hS] at hu; cases hu
    · rw [setO_ne _ _ e]; exact hu

theorem Inv.newBox (h : Inv w0 l0 G S0 w lev own S env tm) {r : Nat} (h16 : 16 ≤ r) (hf : env.o r = .undef) {vs : Array Value} {cs : List D} (T : TypeId) (hsz : vs.size = cs.length)
    (hrep : ∀ (j : Nat) u e, vs[j]? = some u → cs[j]? = some e → RepV (cx w lev S) u e) :
    Inv w0 l0 G S0 (w.alloc (.cells vs T)) (setO lev w.heap.size (some 0)) (setO own w.heap.size (some r)) (setO S r (some (.pointer (some ⟨w.heap.size, 0, none⟩)))) (updO env r (.box cs)) tm := by
  refine h.newObj h16 hf T ?_
  intro lev' own' S' hv hS hSr hh hl ho hg
  refine ⟨w.heap.size, 0, vs, T, hSr, hh, by omega, hl, ho, hg _ _, ?_⟩
  intro j u e hu he
  rw [Nat.zero_add] at hu
  exact (hrep j u e hu he).vmono hv hS
theorem Inv.newOwn (h : Inv w0 l0 G S0 w lev own S env tm) {r : Nat} (h16 : 16 ≤ r) (hf : env.o r = .undef) {vs : Array Value} {z cap : Nat} {rows : List (List D)} (T : TypeId) (hsz : vs.size = cap * z) (hl : rows.length ≤ cap) (hz : ∀ r ∈ rows, r.length = z) (hk : ∀ r ∈ rows, ∀ c ∈ r, permOk c)
    (hrep : ∀ (i j : Nat) r c, rows[i]? = some r → r[j]? = some c → ∃ u, vs[i * z + j]? = some u ∧ RepV (cx w lev S) u c) :
    Inv w0 l0 G S0 (w.alloc (.cells vs T)) (setO lev w.heap.size (some 0)) (setO own w.heap.size (some r)) (setO S r (some (.slice (some ⟨w.heap.size, 0, none⟩) rows.length cap))) (updO env r (.own z rows)) tm := by
  refine h.newObj h16 hf T ?_
  intro lev' own' S' hv hS hSr hh hlv ho hg
  refine .inr ⟨w.heap.size, vs, T, cap, hSr, hh, hsz, hl, hz, hk, hlv, ho, hg _ _, ?_⟩
  intro i j row c hi hj
  obtain ⟨u, hu, hru⟩ := hrep i j row c hi hj
  exact ⟨u, hu, hru.vmono hv hS⟩
/-- an empty slice without a place to spare becomes object r -/
theorem Inv.newEmp (h : Inv w0 l0 G S0 w lev own S env tm) {r : Nat} (h16 : 16 ≤ r) (hf : env.o r = .undef) (z : Nat) (a : Option Addr) :
    Inv w0 l0 G S0 w lev own (setO S r (some (.slice a 0 0))) (updO env r (.own z [])) tm := by
  have hS := h.fresh hf
  refine h.setObj ⟨rfl, rfl, rfl, Nat.le_refl _, fun _ _ _ => rfl, ?_, h.priv, h.levOld⟩ (.refl _ _) (fun s hs => setO_ne _ _ hs) (fun u hu => by rw [hS] at hu; cases hu) (.inl h16) (fun _ _ _ _ _ _ => ⟨rfl, rfl, rfl⟩) (.inl ⟨a, setO_same _ _ _, rfl⟩)
  intro b lo hi hg
  exact (h.part b lo hi hg).of_same rfl
theorem Inv.drew (h : Inv w0 l0 G S0 w lev own S env tm) : Inv w0 l0 G S0 w.drew lev own S env tm :=
  ⟨h.os, h.tape, h.output, h.size, h.old, h.part, h.priv, h.levOld, h.ent, h.temps, h.objs⟩

/-- the cells of an object, one by one -/
theorem Inv.box_cells (h : Inv w0 l0 G S0 w lev own S env tm) {r : Nat} {cs : List D} (he : env.o r = .box cs) {a : Addr} (ha : S r = some (.pointer (some a))) :
    ∀ (j : Nat) d, cs[j]? = some d → ∃ u, w.cell? (a.add j) = some u ∧ RepV (cx w lev S) u d := by
  have hobj := h.objs r
  rw [he] at hobj
  obtain ⟨b, o, c, E, h1, h2, h3, h4, h5, h6, h7⟩ := hobj
  rw [h1] at ha
  cases ha
  intro j d hj
  have hlt : o + j < c.size := by have := (List.getElem?_eq_some_iff.1 hj).1; omega
  refine ⟨c[o + j], ?_, h7 j _ d (by simp [hlt]) hj⟩
  rw [add_off, cell_at w b _ h2]; simp [hlt]
theorem Inv.own_head (h : Inv w0 l0 G S0 w lev own S env tm) {r : Nat} {z : Nat} {rows : List (List D)} (he : env.o r = .own z rows) :
    ∃ a cap, S r = some (.slice a rows.length cap) ∧ rows.length ≤ cap ∧ (∀ r ∈ rows, ∀ d ∈ r, permOk d) ∧ (∀ r ∈ rows, r.length = z) ∧ (a = none → rows = [] ∧ cap = 0) ∧ ∀ ad, a = some ad → ∀ (i j : Nat) row d, rows[i]? = some row → row[j]? = some d → ∃ u, w.cell? (ad.add (i * z + j)) = some u ∧ RepV (cx w lev S) u d := by
  have hobj := h.objs r
  rw [he] at hobj
  rcases hobj with ⟨a, h1, rfl⟩ | ⟨b, c, E, cap, h1, h2, h3, h4, h5, h6, h7, h8, h9, h10⟩
  · exact ⟨a, 0, h1, by simp, by simp, by simp, fun _ => ⟨rfl, rfl⟩, by simp⟩
  · refine ⟨_, cap, h1, h4, h6, h5, (fun e => by cases e), ?_⟩
    rintro ad ⟨⟩ i j row d hi hj
    obtain ⟨u, hu, hru⟩ := h10 i j row d hi hj
    exact ⟨u, by rw [add_off, Nat.zero_add, cell_at w b _ h2]; exact hu, hru⟩
end
end Go.Abs
