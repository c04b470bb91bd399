/- Each operation of the model does what AbsSem says of the data; no theorem of a claim. -/
import Derived.Test.YtdklpddmplflgaaDoorAbcSem
set_option linter.unusedSimpArgs false
set_option linter.unusedVariables false
namespace Go.Abs

section
variable {P : Program} {w : World} {V : Cx}

theorem run_und {t : TypeId} {d : TypeDesc} (h : P.underlying t = some d) (w : World) : (underlying t).run P w = .ok d w := run_underlying h w
theorem run_info {t : TypeId} {i : TypeInfo} (h : P.info? t = some i) (w : World) : (typeInfo t).run P w = .ok i w := by
  simp [typeInfo, program, h, Sem.run_bind, Sem.run]
theorem run_size {t : TypeId} {i : TypeInfo} (h : P.info? t = some i) (w : World) : (sizeOf t).run P w = .ok i.size w := by
  simp [sizeOf, run_info h, Sem.run_bind, Sem.run]
theorem lay_und {t : TypeId} {l : Lay} (h : layT P t = some l) : ∃ d i, P.underlying t = some d ∧ P.info? t = some i ∧ l = ⟨aggDesc d, i.size⟩ := by
  unfold layT at h
  split at h
  · rename_i d i hd hi
    exact ⟨d, i, hd, hi, by simpa using h.symm⟩
  · cases h
theorem run_lsize {t : TypeId} {l : Lay} (h : layT P t = some l) (w : World) : (sizeOf t).run P w = .ok l.sz w := by
  obtain ⟨d, i, _, hi, rfl⟩ := lay_und h
  exact run_size hi w
theorem run_isAgg {t : TypeId} {l : Lay} (h : layT P t = some l) (w : World) : (isAgg t).run P w = .ok l.agg w := by
  obtain ⟨d, i, hd, _, rfl⟩ := lay_und h
  simp only [isAgg, Sem.run_bind, run_und hd]
  cases d <;> simp [aggDesc, Sem.run, pure]

theorem RepV.int_inv {v : Value} {k : IntKind} {n : Int} (h : RepV V v (.int k n)) : v = .int k n := by cases h; rfl
theorem RepV.bool_inv {v : Value} {b : Bool} (h : RepV V v (.bool b)) : v = .bool b := by cases h; rfl
theorem RepV.str_inv {v : Value} {s : ByteArray} (h : RepV V v (.str s)) : v = .string s := by cases h; rfl
theorem RepV.agg_inv {v : Value} {ds : List D} (h : RepV V v (.agg ds)) : ∃ vs, v = .agg vs ∧ vs.size = ds.length ∧ ∀ (i : Nat) v d, vs[i]? = some v → ds[i]? = some d → RepV V v d := by
  cases h with
  | agg vs ds hl hi => exact ⟨vs, rfl, hl, hi⟩
theorem RepV.tup_inv {v : Value} {ds : List D} (h : RepV V v (.tup ds)) : ∃ vs, v = .tuple vs ∧ vs.size = ds.length ∧ ∀ (i : Nat) v d, vs[i]? = some v → ds[i]? = some d → RepV V v d := by
  cases h with
  | tup vs ds hl hi => exact ⟨vs, rfl, hl, hi⟩
theorem RepV.fn_inv {v : Value} {f : FuncId} {ds : List D} (h : RepV V v (.fn f ds)) : ∃ vs, v = .func (.func f) #[] vs ∧ vs.size = ds.length ∧ ∀ (i : Nat) v d, vs[i]? = some v → ds[i]? = some d → RepV V v d := by
  cases h with
  | fn f vs ds hl hi => exact ⟨vs, rfl, hl, hi⟩
theorem RepV.sl_inv {v : Value} {z : Nat} {rows : List (List D)} (h : RepV V v (.sl z rows)) :
    ∃ a cap, v = .slice a rows.length cap ∧ rows.length ≤ cap ∧ (∀ r ∈ rows, r.length = z) ∧ (∀ r ∈ rows, ∀ d ∈ r, permOk d) ∧
      (a = none → rows = [] ∧ cap = 0) ∧ ∀ ad, a = some ad → ∀ (i j : Nat) r d, rows[i]? = some r → r[j]? = some d → ∃ u, V.V (ad.add (i * z + j)) = some u ∧ RepV V u d := by
  cases h with
  | slnil z => exact ⟨none, 0, rfl, by simp, by simp, by simp, fun _ => ⟨rfl, rfl⟩, (fun ad h => by cases h)⟩
  | sl z a cap rows f hl hz hk hV hR =>
    refine ⟨some a, cap, rfl, hl, hz, hk, (fun h => by cases h), ?_⟩
    rintro ad ⟨⟩ i j r d hi hj
    exact ⟨_, hV i j r d hi hj, hR i j r d hi hj⟩
theorem RepV.eaddr_inv {v : Value} {cs : List D} (h : RepV V v (.eaddr cs)) :
    ∃ a, v = .pointer (some a) ∧ (∀ d ∈ cs, d.names = []) ∧ ∀ (j : Nat) d, cs[j]? = some d → ∃ u, V.V (a.add j) = some u ∧ RepV V u d := by
  cases h with
  | eaddr a cs f hn hV hR => exact ⟨a, rfl, hn, fun j d hj => ⟨_, hV j d hj, hR j d hj⟩⟩
theorem RepV.ref_inv {v : Value} {r : Nat} (h : RepV V v (.ref r)) : V.S r = some v ∧ ∃ a len cap, v = .slice a len cap := by
  cases h with
  | ref r a len cap h => exact ⟨h, a, len, cap, rfl⟩
theorem RepV.addr_inv {v : Value} {r off : Nat} (h : RepV V v (.addr r off)) : ∃ a, V.S r = some (.pointer (some a)) ∧ v = .pointer (some (a.add off)) := by
  cases h with
  | addr r off a h => exact ⟨a, h, rfl⟩
theorem RepV.oaddr_inv {v : Value} {r z i k : Nat} (h : RepV V v (.oaddr r z i k)) : ∃ a len cap, V.S r = some (.slice (some a) len cap) ∧ v = .pointer (some (a.add (i * z + k))) := by
  cases h with
  | oaddr r z i k a len cap h => exact ⟨a, len, cap, h, rfl⟩
theorem RepV.osub_inv {v : Value} {r z lo len : Nat} (h : RepV V v (.osub r z lo len)) : ∃ a a' L cap cap', V.S r = some (.slice a L cap) ∧ v = .slice a' len cap' ∧ (len ≠ 0 → ∃ b, a = some b ∧ a' = some (b.add (lo * z))) ∧ len ≤ cap' ∧ (a' = none → cap' = 0) := by
  cases h with
  | osub r z lo len a a' L cap cap' h h1 h2 h3 => exact ⟨a, a', L, cap, cap', h, rfl, h1, h2, h3⟩
theorem RepV.bsub_inv {v : Value} {r off z len cap : Nat} (h : RepV V v (.bsub r off z len cap)) : ∃ a a' cap', V.S r = some (.pointer (some a)) ∧ v = .slice a' len cap' ∧ (len ≠ 0 → a' = some (a.add off)) ∧ len ≤ cap' ∧ (a' = none → cap' = 0) ∧ cap' = cap ∧ (cap ≠ 0 → a' = some (a.add off)) := by
  cases h with
  | bsub r off z len cap a a' h h1 h2 =>
    refine ⟨a, a', cap, h, rfl, fun hn => h1 (by omega), h2, ?_, rfl, h1⟩
    intro hn
    by_cases e : cap = 0
    · exact e
    · have := h1 e; rw [hn] at this; cases this

theorem repV_sl {z : Nat} {rows : List (List D)} {a : Addr} {cap : Nat} (hl : rows.length ≤ cap) (hz : ∀ r ∈ rows, r.length = z) (hk : ∀ r ∈ rows, ∀ d ∈ r, permOk d)
    (h : ∀ (i j : Nat) r d, rows[i]? = some r → r[j]? = some d → ∃ u, V.V (a.add (i * z + j)) = some u ∧ RepV V u d) : RepV V (.slice (some a) rows.length cap) (.sl z rows) :=
  .sl z a cap rows (fun i j => (V.V (a.add (i * z + j))).getD Go.undef) hl hz hk
    (fun i j r d hi hj => by obtain ⟨u, hu, _⟩ := h i j r d hi hj; simp [hu])
    (fun i j r d hi hj => by obtain ⟨u, hu, hr⟩ := h i j r d hi hj; simpa [hu] using hr)
theorem repV_eaddr {cs : List D} {a : Addr} (hn : ∀ d ∈ cs, d.names = []) (h : ∀ (j : Nat) d, cs[j]? = some d → ∃ u, V.V (a.add j) = some u ∧ RepV V u d) : RepV V (.pointer (some a)) (.eaddr cs) :=
  .eaddr a cs (fun j => (V.V (a.add j)).getD Go.undef) hn
    (fun j d hj => by obtain ⟨u, hu, _⟩ := h j d hj; simp [hu])
    (fun j d hj => by obtain ⟨u, hu, hr⟩ := h j d hj; simpa [hu] using hr)

/-! ### constants -/
theorem repV_constC (v : Value) : RepV V v (constC v) := by
  unfold constC
  split <;> first | exact .bool _ | exact .int _ _ | exact .str _ | exact .nil | exact .nilfn | exact .nilif | exact .nilp | exact .undef _
theorem repV_constD (v : Value) : RepV V v (constD v) := by
  unfold constD
  split
  · rename_i cs
    refine .agg _ _ (by simp) ?_
    intro i v d hv hd
    simp only [List.getElem?_map] at hd
    have : cs.toList[i]? = some v := by simpa using hv
    rw [this] at hd
    simp at hd
    subst hd
    exact repV_constC v
  · rename_i vs
    split
    · rename_i h0
      have : vs = #[] := by simpa using h0
      subst this
      exact .tup _ _ rfl (by intro i v d hv; simp at hv)
    · exact .undef _
  · exact repV_constC _

/-! ### operators -/

theorem run_intCmp (op : BinOp) (k : IntKind) (a b : Int) (w : World) (h : op = .eql ∨ op = .neq ∨ op = .lss ∨ op = .leq ∨ op = .gtr ∨ op = .geq) :
    ∃ u, (Op.intCmp op a b).run P w = .ok u w ∧ RepV V u (iop op k a b) := by
  rcases h with rfl | rfl | rfl | rfl | rfl | rfl <;> exact ⟨_, rfl, .bool _⟩

theorem run_iop {op : BinOp} {t : TypeId} {k k' : IntKind} {n m : Int} (h : iopOk op k k' m) (w : World) :
    ∃ u, (binOp op t (.int k n) (.int k' m)).run P w = .ok u w ∧ RepV V u (iop op k n m) := by
  cases op
  case shl => exact ⟨_, by have h' : ¬ m < 0 := Int.not_lt.2 h; simp [binOp, Op.shift, h', Sem.run, pure], .int _ _⟩
  case shr => exact ⟨_, by have h' : ¬ m < 0 := Int.not_lt.2 h; simp [binOp, Op.shift, h', Sem.run, pure], .int _ _⟩
  case quo =>
    have hk := h.1
    have hm := h.2
    subst hk
    exact ⟨_, by simp [binOp, Op.intDiv, hm, Sem.run, pure], .int _ _⟩
  case rem =>
    have hk := h.1
    have hm := h.2
    subst hk
    exact ⟨_, by simp [binOp, Op.intDiv, hm, Sem.run, pure], .int _ _⟩
  all_goals
    have hk : k = k' := h
    subst hk
    first
      | exact ⟨_, by simp [binOp, Op.intArith, Op.intBits, Op.intCmp, Sem.run, pure], .int _ _⟩
      | exact ⟨_, by simp [binOp, Op.intArith, Op.intBits, Op.intCmp, Sem.run, pure], .bool _⟩

theorem run_equalIn_bool {t : TypeId} (hu : P.underlying t = some .bool) (d : Nat) (p q : Bool) (w : World) : (Op.equalIn (d + 1) t (.bool p) (.bool q)).run P w = .ok (p == q) w := by
  unfold Op.equalIn
  simp only [Sem.run_bind, run_und hu]; rfl

theorem run_binOp {op : BinOp} {t : TypeId} {x y : Value} {a b : D} (hx : RepV V x a) (hy : RepV V y b) (h : binOk0 op (tyT P t) a b) (w : World) :
    ∃ u, (binOp op t x y).run P w = .ok u w ∧ RepV V u (binV op a b) := by
  cases a <;> try exact h.elim
  case int k n =>
    cases b <;> try exact h.elim
    case int k' m =>
      rw [hx.int_inv, hy.int_inv]
      exact run_iop h w
  case str s =>
    cases b <;> try exact h.elim
    case str s' =>
      rw [hx.str_inv, hy.str_inv]
      simp only [binOk0] at h
      cases op <;> simp only [sopOk] at h <;> try exact h.elim
      case add =>
        refine ⟨.string (s ++ s'), ?_, .str _⟩
        have : ¬ (((s.size + s'.size : Nat) : Int) > IntKind.i64.max) := by
          simp [IntKind.max, IntKind.bits, IntKind.signed]; omega
        simp only [binOp, Op.stringOp, if_neg this]; rfl
      all_goals exact ⟨_, by simp only [binOp, Op.stringOp]; rfl, by simp only [binV, sop]; constructor⟩
  case bool p =>
    cases b <;> try exact h.elim
    case bool q =>
      rw [hx.bool_inv, hy.bool_inv]
      obtain ⟨ho, ht⟩ := h
      have hu : P.underlying t = some .bool := by
        unfold tyT at ht
        split at ht <;> first | assumption | (exfalso; revert ht; (repeat' split) <;> simp) | cases ht
      have he : (Op.equal t (.bool p) (.bool q)).run P w = .ok (p == q) w := by
        exact run_equalIn_bool hu 9999 p q w
      rcases ho with rfl | rfl
      · exact ⟨.bool (p == q), by simp [binOp, Sem.run_bind, he, Sem.run, pure], by simp only [binV, eqD]; constructor⟩
      · exact ⟨.bool (!(p == q)), by simp [binOp, Sem.run_bind, he, Sem.run, pure], by simp only [binV, eqD]; constructor⟩

theorem run_eqGuard {op : BinOp} {t : TypeId} {ox oy : Operand} {x y : Value} {a b : D} (hx : RepV V x a) (hy : RepV V y b) (h : binOk0 op (tyT P t) a b) (w : World) :
    (eqGuard op t ox oy x y).run P w = .ok () w := by
  cases a <;> try exact h.elim
  all_goals (cases b <;> try exact h.elim)
  · rw [hx.bool_inv, hy.bool_inv]; cases op <;> simp [eqGuard, Sem.run, pure]
  · rw [hx.int_inv, hy.int_inv]; cases op <;> simp [eqGuard, Sem.run, pure]
  · rw [hx.str_inv, hy.str_inv]; cases op <;> simp [eqGuard, Sem.run, pure]

theorem run_unary {op : UnOp} {x : Value} {a : D} (hx : RepV V x a) (h : unopOk op a) (w : World) :
    ∃ u, (Op.unary op x).run P w = .ok u w ∧ RepV V u (unopV op a) := by
  cases a <;> try exact h.elim
  case int k n =>
    rw [hx.int_inv]
    rcases h with rfl | rfl
    · exact ⟨.int k (k.wrap (0 - n)), by simp only [Op.unary, Op.intArith]; rfl, .int _ _⟩
    · exact ⟨_, by simp [Op.unary, Op.intBits, Sem.run, pure]; rfl, by simp only [unopV]; constructor⟩
  case bool b =>
    rw [hx.bool_inv]
    simp only [unopOk] at h
    subst h
    exact ⟨.bool (!b), rfl, by simp only [unopV]; constructor⟩

theorem tyT_int {t : TypeId} {k : IntKind} (h : tyT P t = .int k) : P.underlying t = some (.int k) := by
  unfold tyT at h
  split at h <;> first | (cases h; assumption) | cases h | (exfalso; revert h; (repeat' split) <;> simp)
theorem tyT_str {t : TypeId} (h : tyT P t = .str) : P.underlying t = some .string := by
  unfold tyT at h
  split at h <;> first | (cases h; assumption) | cases h | (exfalso; revert h; (repeat' split) <;> simp)
theorem tyT_slice {t : TypeId} {z n : Nat} {a : Bool} (h : tyT P t = .slice z n a) :
    ∃ e i, P.underlying t = some (.slice e) ∧ layT P e = some ⟨a, z⟩ ∧ P.info? e = some i ∧ i.bytes = n ∧ z ≠ 0 ∧ ∃ zv, i.zero = some zv ∧ zv.cells.size = z := by
  unfold tyT at h
  split at h <;> try (cases h; done)
  · rename_i e hu
    split at h <;> try (cases h; done)
    rename_i l i hl hi
    split at h
    · cases h
    · split at h
      · rename_i hzv
        cases h
        cases hz : i.zero with
        | none => rw [hz] at hzv; cases hzv
        | some zv =>
          rw [hz] at hzv
          exact ⟨e, i, hu, hl, hi, rfl, by assumption, zv, hz, by simpa using hzv⟩
      · cases h
  · split at h <;> try (cases h; done)
    split at h <;> cases h
  · split at h <;> cases h
theorem tyT_arr {t : TypeId} {n z : Nat} {a : Bool} (h : tyT P t = .arr n z a) : ∃ e, P.underlying t = some (.array n e) ∧ layT P e = some ⟨a, z⟩ ∧ z ≠ 0 := by
  unfold tyT at h
  split at h <;> try (cases h; done)
  · split at h <;> try (cases h; done)
    split at h <;> try (cases h; done)
    split at h <;> cases h
  · rename_i n' e hu
    split at h <;> try (cases h; done)
    rename_i l hl
    split at h
    · cases h
    · cases h
      exact ⟨e, hu, hl, by assumption⟩
  · split at h <;> cases h
theorem tyT_struct {t : TypeId} {l : List FT} (h : tyT P t = .struct l) : ∃ fs, P.underlying t = some (.struct fs) ∧ fieldsT P fs.toList = some l := by
  unfold tyT at h
  split at h <;> try (cases h; done)
  · split at h <;> try (cases h; done)
    split at h <;> try (cases h; done)
    split at h <;> cases h
  · split at h <;> try (cases h; done)
    split at h <;> cases h
  · rename_i fs hu
    split at h <;> try (cases h; done)
    cases h
    exact ⟨fs, hu, by assumption⟩
theorem fieldsT_at : ∀ {fs : List Field} {l : List FT}, fieldsT P fs = some l → l.length = fs.length ∧ ∀ (i : Nat) f, fs[i]? = some f → ∃ ly, layT P f.type = some ly ∧ ly.sz ≠ 0 ∧ l[i]? = some ⟨f.offset, ly.sz, ly.agg⟩
  | [], l, h => by simp only [fieldsT, Option.some.injEq] at h; subst h; exact ⟨rfl, by intro i f h; simp at h⟩
  | f :: r, l, h => by
    unfold fieldsT at h
    split at h <;> try (cases h; done)
    rename_i ly fs' hl hr
    split at h
    · cases h
    · rename_i hz
      cases h
      obtain ⟨h1, h2⟩ := fieldsT_at hr
      refine ⟨by simp [h1], ?_⟩
      intro i g hg
      cases i with
      | zero => simp at hg; subst hg; exact ⟨ly, hl, hz, rfl⟩
      | succ i => simp at hg ⊢; exact h2 i g hg

theorem run_convert {s d : TypeId} {x : Value} {a : D} (hx : RepV V x a) (h : convOk (tyT P s) (tyT P d) a) (w : World) :
    ∃ u, (convert s d x).run P w = .ok u w ∧ RepV V u (convV (tyT P s) (tyT P d) a) := by
  cases a <;> try exact h.elim
  case int k n =>
    rw [hx.int_inv]
    obtain ⟨⟨k', ht⟩, ⟨k'', hs⟩⟩ := h
    refine ⟨.int k' (k'.wrap n), ?_, by simp only [convV, ht]; constructor⟩
    simp [convert, Sem.run_bind, run_und (tyT_int ht), run_und (tyT_int hs), Conv.intToInt, Sem.run, pure]
  case str b =>
    rw [hx.str_inv]
    obtain ⟨ht, hs⟩ := h
    refine ⟨.string b, ?_, by simp only [convV, ht]; constructor⟩
    simp [convert, Sem.run_bind, run_und (tyT_str ht), run_und (tyT_str hs), Sem.run, pure]
end
end Go.Abs
