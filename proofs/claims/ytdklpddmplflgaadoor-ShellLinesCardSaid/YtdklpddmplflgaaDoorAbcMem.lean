/- Loads, addresses, parts and building, of the model and of AbsSem; no theorem of a claim. -/
import Derived.Test.YtdklpddmplflgaaDoorAbcRun
set_option linter.unusedSimpArgs false
set_option linter.unusedVariables false
namespace Go.Abs

theorem add_add (a : Addr) (i j : Nat) : (a.add i).add j = a.add (i + j) := by
  unfold Addr.add
  by_cases hi : i = 0 <;> by_cases hj : j = 0 <;> simp [hi, hj, Nat.add_assoc]
theorem add_block (a : Addr) (i : Nat) : (a.add i).block = a.block := by unfold Addr.add; split <;> rfl
theorem add_off (b o j : Nat) : (⟨b, o, none⟩ : Addr).add j = ⟨b, o + j, none⟩ := by
  unfold Addr.add
  split
  · rename_i h; simp [h]
  · rfl
theorem cell_at (w : World) (b i : Nat) {c : Array Value} {E : TypeId} {fr : Nat × Nat} (h : w.heap[b]? = some (.cells c E fr)) : w.cell? ⟨b, i, none⟩ = c[i]? := by
  simp [World.cell?, h]

section
variable {P : Program} {w : World} {V : Cx}

theorem run_loadAt {t : TypeId} {l : Lay} (hl : layT P t = some l) (h1 : l.agg = false → l.sz = 1) {a : Addr} (cs : List Value) (hc : cs.length = l.sz)
    (h : ∀ (j : Nat) v, cs[j]? = some v → w.cell? (a.add j) = some v) :
    (Instr.loadAt t (.pointer (some a))).run P w = .ok (if l.agg then .agg cs.toArray else cs.headD Go.undef) w := by
  simp only [Instr.loadAt, Instr.sureAddr, loadVar, Sem.run_bind, run_isAgg hl]
  cases ha : l.agg with
  | false =>
    have hs := h1 ha
    match cs, hc.trans hs with
    | [v], _ =>
      have := h 0 v rfl
      simp [load, Sem.run, pure, Addr.add] at this ⊢
      simp [Sem.bind, Sem.run, this]
  | true =>
    have hr := run_loadCells_list (P := P) (w := w) a cs h
    rw [hc] at hr
    simp [Sem.run_bind, run_lsize hl, hr, Sem.run, pure]

theorem part_headD {cs : List D} {n : Nat} (h : 1 ≤ n) : ((cs.take n).headD .undef) = cs.headD .undef := by
  cases cs with
  | nil => simp
  | cons a t => cases n with
    | zero => omega
    | succ n => simp

/-- cells read one by one: the whole value, or the one cell -/
theorem rep_cells {l : Lay} (h1 : l.agg = false → l.sz = 1) (h0 : 1 ≤ l.sz) {vs : List Value} {ds : List D} (hv : vs.length = l.sz) (hd : ds.length = l.sz)
    (h : ∀ (j : Nat) v d, vs[j]? = some v → ds[j]? = some d → RepV V v d) :
    RepV V (if l.agg then .agg vs.toArray else vs.headD Go.undef) (if l.agg then .agg ds else ds.headD .undef) := by
  cases ha : l.agg with
  | true =>
    refine .agg _ _ (by simp [hv, hd]) ?_
    intro i v d hi hj
    exact h i v d (by simpa using hi) hj
  | false =>
    have hs := h1 ha
    match vs, ds, hv.trans hs, hd.trans hs with
    | [v], [d], _, _ => exact h 0 v d rfl rfl

theorem run_ld_eaddr (hV : ∀ a v, V.V a = some v → w.cell? a = some v) {t : TypeId} {l : Lay} (hl : layT P t = some l) {x : Value} {cs : List D} (hx : RepV V x (.eaddr cs))
    (hs : l.sz ≤ cs.length) (h0 : 1 ≤ l.sz) (h1 : l.agg = false → l.sz = 1) :
    ∃ u, (Instr.loadAt t x).run P w = .ok u w ∧ RepV V u (part l.agg 0 l.sz cs) := by
  obtain ⟨a, rfl, hn, hc⟩ := hx.eaddr_inv
  let f : Nat → Value := fun j => (V.V (a.add j)).getD Go.undef
  have hf : ∀ (j : Nat) d, cs[j]? = some d → V.V (a.add j) = some (f j) ∧ RepV V (f j) d := by
    intro j d hj
    obtain ⟨u, hu, hr⟩ := hc j d hj
    simp only [f, hu, Option.getD_some]
    exact ⟨trivial, hr⟩
  have hlen : ((List.range l.sz).map f).length = l.sz := by simp
  refine ⟨_, run_loadAt hl h1 ((List.range l.sz).map f) hlen ?_, ?_⟩
  · intro j v hj
    simp only [List.getElem?_map] at hj
    rcases Nat.lt_or_ge j l.sz with hlt | hge
    · rw [List.getElem?_range hlt] at hj
      simp at hj
      subst hj
      exact hV _ _ (hf j cs[j] (List.getElem?_eq_getElem (by omega))).1
    · rw [List.getElem?_eq_none (by simpa using hge)] at hj; simp at hj
  · have := rep_cells (V := V) h1 h0 (vs := (List.range l.sz).map f) (ds := cs.take l.sz) hlen (by simp; omega) (by
      intro j v d hv hd
      rcases Nat.lt_or_ge j l.sz with hlt | hge
      · simp only [List.getElem?_map, List.getElem?_range hlt, Option.map_some, Option.some.injEq] at hv
        rw [List.getElem?_take_of_lt hlt] at hd
        subst hv
        exact (hf j d hd).2
      · rw [List.getElem?_eq_none (by simpa using hge)] at hv; cases hv)
    unfold part
    simp only [List.drop_zero]
    cases ha : l.agg with
    | true => simpa [ha] using this
    | false =>
      rw [ha] at this
      simp only [Bool.false_eq_true, if_false] at this ⊢
      rw [part_headD h0] at this
      exact this

theorem run_ld_box {t : TypeId} {l : Lay} (hl : layT P t = some l) {b o : Nat} {c : Array Value} {E : TypeId} {cs : List D} (hb : w.heap[b]? = some (.cells c E (0, 0))) (hc : c.size = cs.length)
    (hr : ∀ (j : Nat) v d, c[j]? = some v → cs[j]? = some d → RepV V v d) (hs : o + l.sz ≤ cs.length) (h0 : 1 ≤ l.sz) (h1 : l.agg = false → l.sz = 1) :
    ∃ u, (Instr.loadAt t (.pointer (some ⟨b, o, none⟩))).run P w = .ok u w ∧ RepV V u (part l.agg o l.sz cs) ∧
      (l.agg = false → c[o]? = some u) ∧ (l.agg = true → u = .agg (c.extract o (o + l.sz))) := by
  have hlen : ((c.toList.drop o).take l.sz).length = l.sz := by simp; omega
  refine ⟨_, run_loadAt hl h1 ((c.toList.drop o).take l.sz) hlen ?_, ?_, ?_, ?_⟩
  · intro j v hj
    rcases Nat.lt_or_ge j l.sz with hlt | hge
    · rw [List.getElem?_take_of_lt hlt, List.getElem?_drop] at hj
      rw [add_off, cell_at w b _ hb]
      simpa using hj
    · rw [List.getElem?_eq_none (by omega)] at hj; cases hj
  · have := rep_cells (V := V) h1 h0 (vs := (c.toList.drop o).take l.sz) (ds := (cs.drop o).take l.sz) hlen (by simp; omega) (by
      intro j v d hv hd
      rcases Nat.lt_or_ge j l.sz with hlt | hge
      · rw [List.getElem?_take_of_lt hlt, List.getElem?_drop] at hv hd
        exact hr _ v d (by simpa using hv) hd
      · rw [List.getElem?_eq_none (by omega)] at hv; cases hv)
    unfold part
    cases ha : l.agg with
    | true => simpa [ha] using this
    | false =>
      rw [ha] at this
      simp only [Bool.false_eq_true, if_false] at this ⊢
      rw [part_headD h0] at this
      exact this
  · intro ha
    have hs1 := h1 ha
    have ho : o < c.size := by omega
    simp only [ha, hs1, Bool.false_eq_true, if_false]
    rw [List.drop_eq_getElem_cons (by simpa using ho)]
    simp [ho]
  · intro ha
    simp only [ha, if_true]
    congr 1
    apply Array.ext'
    simp [List.take_drop]

theorem run_fieldAt {t : TypeId} {l : List FT} (ht : tyT P t = .struct l) {a : Addr} {f : Nat} (hf : f < l.length) :
    (Instr.fieldAt t (.pointer (some a)) f).run P w = .ok (.pointer (some (a.add (((l[f]?).map (·.off)).getD 0)))) w := by
  obtain ⟨fs, hu, hfs⟩ := tyT_struct ht
  obtain ⟨hn, hi⟩ := fieldsT_at hfs
  have hlt : f < fs.size := by simpa [hn] using hf
  obtain ⟨ly, h1, h2, h3⟩ := hi f fs[f] (by simp [hlt])
  simp [Instr.fieldAt, Sem.run_bind, run_und hu, hlt, Instr.sureAddr, fieldPlace, run_lsize h1, h2, h3, Sem.run, pure]

theorem run_faV {t : TypeId} {l : List FT} (ht : tyT P t = .struct l) {f : Nat} (hf : f < l.length) {x : Value} {cs : List D} (hx : RepV V x (.eaddr cs)) :
    ∃ u, (Instr.fieldAt t x f).run P w = .ok u w ∧ RepV V u (.eaddr (cs.drop (((l[f]?).map (·.off)).getD 0))) := by
  obtain ⟨a, rfl, hn, hc⟩ := hx.eaddr_inv
  refine ⟨_, run_fieldAt ht hf, repV_eaddr (fun d hd => hn d (List.mem_of_mem_drop hd)) ?_⟩
  intro j d hj
  rw [List.getElem?_drop] at hj
  rw [add_add]
  exact hc _ d hj

theorem run_part {t : TypeId} {l : Lay} (hl : layT P t = some l) {vs : Array Value} {ds : List D} (hn : vs.size = ds.length)
    (h : ∀ (i : Nat) v d, vs[i]? = some v → ds[i]? = some d → RepV V v d) {off : Nat} (ho : off + l.sz ≤ ds.length) (h0 : 1 ≤ l.sz) :
    ∃ u, (Go.part t vs off).run P w = .ok u w ∧ RepV V u (part l.agg off l.sz ds) := by
  simp only [Go.part, Sem.run_bind, run_isAgg hl, part]
  cases ha : l.agg with
  | true =>
    refine ⟨.agg (vs.extract off (off + l.sz)), by simp [Sem.run_bind, run_lsize hl, Sem.run, pure], .agg _ _ (by simp; omega) ?_⟩
    intro i v d hv hd
    rcases Nat.lt_or_ge i l.sz with hlt | hge
    · rw [List.getElem?_take_of_lt hlt, List.getElem?_drop] at hd
      refine h (off + i) v d ?_ hd
      rw [Array.getElem?_extract] at hv
      split at hv
      · simpa using hv
      · cases hv
    · rw [List.getElem?_eq_none (by simp; omega)] at hd; cases hd
  | false =>
    have hlt : off < vs.size := by omega
    refine ⟨vs[off], by simp [hlt, Sem.run, pure], ?_⟩
    have hd : (ds.drop off).headD .undef = ds[off]'(by omega) := by
      rw [List.drop_eq_getElem_cons (by omega)]; rfl
    rw [if_neg (by simp), hd]
    exact h off _ _ (by simp [hlt]) (List.getElem?_eq_getElem (by omega))

theorem run_field {t : TypeId} {l : List FT} (ht : tyT P t = .struct l) {f : Nat} {x : Value} {ds : List D} (hx : RepV V x (.agg ds)) (h : fldOk l f (.agg ds)) :
    ∃ u, (Instr.field t x f).run P w = .ok u w ∧ RepV V u (fldV l f (.agg ds)) := by
  obtain ⟨fs, hu, hfs⟩ := tyT_struct ht
  obtain ⟨hn, hi⟩ := fieldsT_at hfs
  obtain ⟨vs, rfl, hs, hc⟩ := hx.agg_inv
  simp only [fldOk] at h
  split at h
  · rename_i ft hft
    have hlt : f < fs.size := by
      have := (List.getElem?_eq_some_iff.1 hft).1
      simpa [hn] using this
    obtain ⟨ly, h1, h2, h3⟩ := hi f fs[f] (by simp [hlt])
    rw [hft] at h3
    cases h3
    obtain ⟨u, hr, hrep⟩ := run_part (w := w) h1 hs hc h (by omega)
    refine ⟨u, ?_, by simp only [fldV, hft]; exact hrep⟩
    simp [Instr.field, Sem.run_bind, run_und hu, hlt, asAgg, Sem.run, pure, hr]
  · exact h.elim

theorem run_indexAt_slice {t : TypeId} {z by_ : Nat} {ea : Bool} (ht : tyT P t = .slice z by_ ea) {x i : Value} {rows : List (List D)} {k : IntKind} {n : Int}
    (hx : RepV V x (.sl z rows)) (hi : RepV V i (.int k n)) (h0 : 0 ≤ n) (h1 : n < rows.length) :
    ∃ u, (Instr.indexAt t x i).run P w = .ok u w ∧ RepV V u (.eaddr (rows.getD n.toNat [])) := by
  obtain ⟨e, inf, hu, hl, hin, hb, hz, _⟩ := tyT_slice ht
  obtain ⟨a, cap, rfl, hcap, hrl, hpm, hnone, hc⟩ := hx.sl_inv
  rw [hi.int_inv]
  cases a with
  | none =>
    have := (hnone rfl).1
    subst this
    simp at h1
    omega
  | some ad =>
    refine ⟨.pointer (some (ad.add (n.toNat * z))), ?_, repV_eaddr (fun d hd => by
      have hlt : n.toNat < rows.length := by omega
      have : rows.getD n.toNat [] = rows[n.toNat] := by simp [List.getD, List.getElem?_eq_getElem hlt]
      rw [this] at hd
      exact (hpm _ (List.getElem_mem hlt) d hd).2) ?_⟩
    · simp [Instr.indexAt, Sem.run_bind, asIntOf, run_und hu, h0, h1, run_lsize hl, Sem.run, pure]
    · intro j d hj
      have hlt : n.toNat < rows.length := by omega
      rw [add_add]
      have hr : rows[n.toNat]? = some rows[n.toNat] := List.getElem?_eq_getElem hlt
      have : rows.getD n.toNat [] = rows[n.toNat] := by simp [List.getD, hr]
      rw [this] at hj
      exact hc ad rfl n.toNat j _ d hr hj

theorem run_indexAt_arr {t : TypeId} {m z : Nat} {ea : Bool} (ht : tyT P t = .arr m z ea) {a : Addr} {i : Value} {k : IntKind} {n : Int}
    (hi : RepV V i (.int k n)) (h0 : 0 ≤ n) (h1 : n < m) :
    (Instr.indexAt t (.pointer (some a)) i).run P w = .ok (.pointer (some (a.add (n.toNat * z)))) w := by
  obtain ⟨e, hu, hl, hz⟩ := tyT_arr ht
  rw [hi.int_inv]
  simp [Instr.indexAt, Sem.run_bind, asIntOf, run_und hu, h0, h1, run_lsize hl, Instr.sureAddr, Sem.run, pure]

theorem run_index_arr {t : TypeId} {m z : Nat} {ea : Bool} (ht : tyT P t = .arr m z ea) {x i : Value} {ds : List D} {k : IntKind} {n : Int}
    (hx : RepV V x (.agg ds)) (hi : RepV V i (.int k n)) (h0 : 0 ≤ n) (h1 : n < m) (hd : ds.length = m * z) :
    ∃ u, (Instr.index t x i).run P w = .ok u w ∧ RepV V u (part ea (n.toNat * z) z ds) := by
  obtain ⟨e, hu, hl, hz⟩ := tyT_arr ht
  obtain ⟨vs, rfl, hs, hc⟩ := hx.agg_inv
  rw [hi.int_inv]
  have hlt : n.toNat * z + z ≤ ds.length := by
    rw [hd, ← Nat.succ_mul]
    exact Nat.mul_le_mul_right z (by omega)
  obtain ⟨u, hr, hrep⟩ := run_part (P := P) (w := w) hl hs hc hlt (by simpa using Nat.one_le_iff_ne_zero.2 hz)
  refine ⟨u, ?_, hrep⟩
  simp [Instr.index, Sem.run_bind, asIntOf, run_und hu, h0, h1, run_lsize hl, hr, Sem.run, pure]

theorem run_index_str {t : TypeId} (ht : tyT P t = .str) {x i : Value} {s : ByteArray} {k : IntKind} {n : Int}
    (hx : RepV V x (.str s)) (hi : RepV V i (.int k n)) (h0 : 0 ≤ n) (h1 : n < s.size) :
    ∃ u, (Instr.index t x i).run P w = .ok u w ∧ RepV V u (.int .u8 ((s[n.toNat]?).map (·.toNat)|>.getD 0)) := by
  rw [hx.str_inv, hi.int_inv]
  have hlt : n.toNat < s.size := by omega
  refine ⟨.int .u8 (s[n.toNat]'hlt).toNat, ?_, ?_⟩
  · simp [Instr.index, Sem.run_bind, asIntOf, run_und (tyT_str ht), h0, hlt, Sem.run, pure]
  · simp [hlt]; exact .int _ _

/-- a load of cells that are known one by one -/
theorem run_ld_cells {t : TypeId} {l : Lay} (hl : layT P t = some l) {a : Addr} {cs : List D} (hc : ∀ (j : Nat) d, cs[j]? = some d → ∃ u, w.cell? (a.add j) = some u ∧ RepV V u d)
    {o : Nat} (hs : o + l.sz ≤ cs.length) (h0 : 1 ≤ l.sz) (h1 : l.agg = false → l.sz = 1) :
    ∃ u, (Instr.loadAt t (.pointer (some (a.add o)))).run P w = .ok u w ∧ RepV V u (part l.agg o l.sz cs) := by
  let f : Nat → Value := fun j => (w.cell? (a.add j)).getD Go.undef
  have hf : ∀ (j : Nat) d, cs[j]? = some d → w.cell? (a.add j) = some (f j) ∧ RepV V (f j) d := by
    intro j d hj
    obtain ⟨u, hu, hr⟩ := hc j d hj
    simp only [f, hu, Option.getD_some]
    exact ⟨trivial, hr⟩
  have hlen : ((List.range l.sz).map fun j => f (o + j)).length = l.sz := by simp
  refine ⟨_, run_loadAt hl h1 ((List.range l.sz).map fun j => f (o + j)) hlen ?_, ?_⟩
  · intro j v hj
    simp only [List.getElem?_map] at hj
    rcases Nat.lt_or_ge j l.sz with hlt | hge
    · rw [List.getElem?_range hlt] at hj
      simp at hj
      subst hj
      rw [add_add]
      exact (hf _ cs[o + j] (List.getElem?_eq_getElem (by omega))).1
    · rw [List.getElem?_eq_none (by simpa using hge)] at hj; simp at hj
  · have := rep_cells (V := V) h1 h0 (vs := (List.range l.sz).map fun j => f (o + j)) (ds := (cs.drop o).take l.sz) hlen (by simp; omega) (by
      intro j v d hv hd
      rcases Nat.lt_or_ge j l.sz with hlt | hge
      · simp only [List.getElem?_map, List.getElem?_range hlt, Option.map_some, Option.some.injEq] at hv
        rw [List.getElem?_take_of_lt hlt, List.getElem?_drop] at hd
        subst hv
        exact (hf _ d hd).2
      · rw [List.getElem?_eq_none (by simpa using hge)] at hv; cases hv)
    unfold part
    cases ha : l.agg with
    | true => simpa [ha] using this
    | false =>
      rw [ha] at this
      simp only [Bool.false_eq_true, if_false] at this ⊢
      rw [part_headD h0] at this
      exact this

end
end Go.Abs
