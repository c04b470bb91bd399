/- Equality of structs and arrays of plain cells; no theorem of a claim. -/
import Derived.Test.YtdklpddmplflgaaDoorAbcMem
set_option linter.unusedSimpArgs false
set_option linter.unusedVariables false
namespace Go.Abs

theorem cellsEq_app : ∀ {a b x y : List D}, a.length = b.length → cellsEq (a ++ x) (b ++ y) = (cellsEq a b && cellsEq x y)
  | [], [], x, y, _ => by simp [cellsEq]
  | [], _ :: _, _, _, h => by simp at h
  | _ :: _, [], _, _, h => by simp at h
  | a :: as, b :: bs, x, y, h => by simp [cellsEq, cellsEq_app (a := as) (b := bs) (by simpa using h), Bool.and_assoc]
theorem leavesOk_app : ∀ {ls rs : List Leaf} {x y : List D}, leavesOk (ls ++ rs) x y → leavesOk ls (x.take ls.length) (y.take ls.length) ∧ leavesOk rs (x.drop ls.length) (y.drop ls.length)
  | [], rs, x, y, h => by simpa [leavesOk] using h
  | l :: ls, rs, [], y, h => by simp [leavesOk] at h
  | l :: ls, rs, a :: x, [], h => by simp [leavesOk] at h
  | l :: ls, rs, a :: x, b :: y, h => by
    simp only [List.cons_append, leavesOk] at h
    obtain ⟨h1, h2⟩ := leavesOk_app h.2
    simp [leavesOk, h.1, h1, h2]
theorem leavesOk_len : ∀ {ls : List Leaf} {x y : List D}, leavesOk ls x y → x.length = ls.length ∧ y.length = ls.length
  | [], [], [], _ => ⟨rfl, rfl⟩
  | [], [], _ :: _, h => h.elim
  | [], _ :: _, _, h => h.elim
  | _ :: _, [], _, h => h.elim
  | _ :: _, _ :: _, [], h => h.elim
  | l :: ls, a :: x, b :: y, h => by
    obtain ⟨h1, h2⟩ := leavesOk_len h.2
    simp [h1, h2]

section
variable {P : Program} {w : World} {V : Cx}

def partV (a : Bool) (off sz : Nat) (vs : Array Value) : Value := if a then .agg (vs.extract off (off + sz)) else (vs[off]?).getD Go.undef
theorem run_partV {t : TypeId} {l : Lay} (hl : layT P t = some l) (vs : Array Value) {off : Nat} (ho : off + l.sz ≤ vs.size) (h0 : 1 ≤ l.sz) : (Go.part t vs off).run P w = .ok (partV l.agg off l.sz vs) w := by
  simp only [Go.part, Sem.run_bind, run_isAgg hl, partV]
  cases ha : l.agg with
  | true => simp [Sem.run_bind, run_lsize hl, Sem.run, pure]
  | false =>
    have hlt : off < vs.size := by omega
    simp [hlt, Sem.run, pure]

/-- the cells of vs from off on read as ds -/
def RepAt (V : Cx) (vs : Array Value) (off : Nat) (ds : List D) : Prop := off + ds.length ≤ vs.size ∧ ∀ (j : Nat) d, ds[j]? = some d → ∃ u, vs[off + j]? = some u ∧ RepV V u d
theorem RepAt.sub {vs : Array Value} {off : Nat} {ds : List D} (h : RepAt V vs off ds) (k n : Nat) (hn : k + n ≤ ds.length) : RepAt V vs (off + k) ((ds.drop k).take n) := by
  refine ⟨by have := h.1; simp; omega, ?_⟩
  intro j d hj
  have hlt : j < n := by have := (List.getElem?_eq_some_iff.1 hj).1; simp at this; omega
  rw [List.getElem?_take_of_lt hlt, List.getElem?_drop] at hj
  obtain ⟨u, hu, hr⟩ := h.2 _ d hj
  exact ⟨u, by rw [Nat.add_assoc]; exact hu, hr⟩

def leafT (P : Program) (l : Leaf) (t : TypeId) : Prop :=
  match l with
  | .int => ∃ k, P.underlying t = some (.int k)
  | .bool => P.underlying t = some .bool
  | .str => P.underlying t = some .string
theorem extr {X : Array Value} {o : Nat} {cs : List D} (hX : RepAt V X o cs) (sz : Nat) (hc : cs.length = sz) : RepAt V (X.extract o (o + sz)) 0 cs := by
  refine ⟨by have := hX.1; simp; omega, ?_⟩
  intro j d hj
  have hlt := (List.getElem?_eq_some_iff.1 hj).1
  obtain ⟨u, hu, hr⟩ := hX.2 j d hj
  refine ⟨u, ?_, hr⟩
  rw [Array.getElem?_extract]
  rw [if_pos (by have := hX.1; omega)]
  simpa using hu
theorem run_leaf {l : Leaf} {t : TypeId} {k : Nat} {a b : D} {x y : Value} (hx : RepV V x a) (hy : RepV V y b) (h : leafOk l a b)
    (ht : leafT P l t) :
    (Op.equalIn (k + 1) t x y).run P w = .ok (cellEq a b) w := by
  cases l <;> cases a <;> (try exact h.elim) <;> cases b <;> (try exact h.elim)
  · have e : _ = _ := h
    subst e
    rw [hx.int_inv, hy.int_inv]
    obtain ⟨k', hk⟩ := ht
    unfold Op.equalIn
    simp [Sem.run_bind, run_und hk, cellEq, Sem.run, pure]
  · rw [hx.bool_inv, hy.bool_inv]
    unfold Op.equalIn
    simp [Sem.run_bind, run_und ht, cellEq, Sem.run, pure]
  · rw [hx.str_inv, hy.str_inv]
    unfold Op.equalIn
    simp [Sem.run_bind, run_und ht, cellEq, Sem.run, pure]

theorem flat_len (ls : List Leaf) : ∀ n, (List.replicate n ls).flatten.length = n * ls.length
  | 0 => by simp
  | n + 1 => by simp [List.replicate_succ, flat_len ls n, Nat.succ_mul, Nat.add_comm]
theorem leaves_pos : ∀ (k : Nat) (t : TypeId) (ls : List Leaf), leavesT P k t = some ls → 1 ≤ ls.length
  | 0, t, ls, h => by simp [leavesT] at h
  | k + 1, t, ls, h => by
    unfold leavesT at h
    split at h <;> try (cases h; done)
    · cases h; simp
    · cases h; simp
    · cases h; simp
    · split at h
      · cases h
      · split at h <;> try (cases h; done)
        split at h <;> try (cases h; done)
        rename_i hz
        cases h
        omega
    · split at h
      · cases h
      · split at h <;> try (cases h; done)
        split at h <;> try (cases h; done)
        rename_i hz
        cases h
        rw [flat_len]
        omega
def eqBody (m : Nat) (X Y : Array Value) (f : Field) (_s : Option Bool × Unit) : Sem (ForInStep (Option Bool × Unit)) :=
  if f.name ≠ "_" then do
    let x ← Go.part f.type X f.offset
    let y ← Go.part f.type Y f.offset
    let b ← Op.equalIn m f.type x y
    if (!b) = true then Sem.pure (ForInStep.done (some false, ())) else Sem.pure (ForInStep.yield (none, ()))
  else Sem.pure (ForInStep.yield (none, ()))
def eqBodyA (m : Nat) (X Y : Array Value) (e : TypeId) (sz : Nat) (i : Nat) (_s : Option Bool × Unit) : Sem (ForInStep (Option Bool × Unit)) := do
  let x ← Go.part e X (i * sz)
  let y ← Go.part e Y (i * sz)
  let b ← Op.equalIn m e x y
  if (!b) = true then Sem.pure (ForInStep.done (some false, ())) else Sem.pure (ForInStep.yield (none, ()))
theorem run_eqFs {k m : Nat} {X Y : Array Value} (ih : ∀ (t : TypeId) (ls : List Leaf), leavesT P k t = some ls → ∀ (xs ys : Array Value) (ox oy : Nat) (as bs : List D), RepAt V xs ox as → RepAt V ys oy bs → leavesOk ls as bs →
    ∃ l, layT P t = some l ∧ l.sz = ls.length ∧ (Op.equalIn m t (partV l.agg ox l.sz xs) (partV l.agg oy l.sz ys)).run P w = .ok (cellsEq as bs) w) :
    ∀ (fs : List Field) (off : Nat) (ls : List Leaf) (as bs : List D), leavesFs (leavesT P k) fs off = some ls → RepAt V X off as → RepAt V Y off bs → leavesOk ls as bs →
      (forIn fs ((none, ()) : Option Bool × Unit) (eqBody m X Y)).run P w = .ok (if cellsEq as bs then (none, ()) else (some false, ())) w
  | [], off, ls, as, bs, h, hx, hy, hok => by
    simp only [leavesFs, Option.some.injEq] at h
    subst h
    match as, bs, hok with
    | [], [], _ => simp [cellsEq, Sem.run, pure]
  | f :: r, off, ls, as, bs, h, hx, hy, hok => by
    unfold leavesFs at h
    split at h <;> try (cases h; done)
    rename_i hf
    simp only [Bool.and_eq_true, bne_iff_ne, ne_eq, beq_iff_eq] at hf
    split at h <;> try (cases h; done)
    rename_i l1 hl1
    cases hrs : leavesFs (leavesT P k) r (off + l1.length) with
    | none => rw [hrs] at h; cases h
    | some rs =>
      rw [hrs] at h
      cases h
      have hlen := leavesOk_len hok
      obtain ⟨o1, o2⟩ := leavesOk_app hok
      have hxl : l1.length ≤ as.length := by rw [hlen.1]; simp
      have hyl : l1.length ≤ bs.length := by rw [hlen.2]; simp
      have hx1 := hx.sub 0 l1.length (by omega)
      have hy1 := hy.sub 0 l1.length (by omega)
      simp only [Nat.add_zero, List.drop_zero] at hx1 hy1
      obtain ⟨l, hlay, hsz, hrun⟩ := ih f.type l1 hl1 X Y off off _ _ hx1 hy1 o1
      have hx2 := hx.sub l1.length (as.length - l1.length) (by omega)
      have hy2 := hy.sub l1.length (bs.length - l1.length) (by omega)
      rw [List.take_of_length_le (by simp)] at hx2 hy2
      have ih2 := run_eqFs ih r (off + l1.length) rs _ _ hrs hx2 hy2 o2
      have hz : 1 ≤ l.sz := by rw [hsz]; exact leaves_pos k f.type l1 hl1
      have hcell : cellsEq as bs = (cellsEq (as.take l1.length) (bs.take l1.length) && cellsEq (as.drop l1.length) (bs.drop l1.length)) := by
        rw [← cellsEq_app (by simp; omega), List.take_append_drop, List.take_append_drop]
      have px : (Go.part f.type X f.offset).run P w = .ok (partV l.agg off l.sz X) w := by
        rw [hf.2]; exact run_partV hlay X (by have := hx.1; omega) hz
      have py : (Go.part f.type Y f.offset).run P w = .ok (partV l.agg off l.sz Y) w := by
        rw [hf.2]; exact run_partV hlay Y (by have := hy.1; omega) hz
      rw [List.forIn_cons]
      simp only [eqBody, hf.1, ne_eq, not_false_eq_true, if_true, Sem.run_bind, px, py, hrun, Result.andThen_ok]
      rw [hcell]
      cases cellsEq (as.take l1.length) (bs.take l1.length) with
      | false => simp [Sem.run, pure, Sem.pure]
      | true =>
        simp only [Bool.not_true, Bool.false_eq_true, if_false, Bool.true_and]
        rw [← ih2]
        rfl
theorem run_eqArr {m : Nat} {X Y : Array Value} {e : TypeId} {ls : List Leaf} {l : Lay} (hl : layT P e = some l) (hsz : l.sz = ls.length) (hz : 1 ≤ l.sz) (ih : ∀ (xs ys : Array Value) (ox oy : Nat) (as bs : List D), RepAt V xs ox as → RepAt V ys oy bs → leavesOk ls as bs →
    (Op.equalIn m e (partV l.agg ox l.sz xs) (partV l.agg oy l.sz ys)).run P w = .ok (cellsEq as bs) w) :
    ∀ (n i : Nat) (as bs : List D), RepAt V X (i * ls.length) as → RepAt V Y (i * ls.length) bs → leavesOk (List.replicate n ls).flatten as bs →
      (forIn (List.range' i n) ((none, ()) : Option Bool × Unit) (eqBodyA m X Y e l.sz)).run P w = .ok (if cellsEq as bs then (none, ()) else (some false, ())) w
  | 0, i, as, bs, hx, hy, hok => by
    match as, bs, hok with
    | [], [], _ => simp [cellsEq, Sem.run, pure]
  | n + 1, i, as, bs, hx, hy, hok => by
    simp only [List.replicate_succ, List.flatten_cons] at hok
    have hlen := leavesOk_len hok
    obtain ⟨o1, o2⟩ := leavesOk_app hok
    have hxl : ls.length ≤ as.length := by rw [hlen.1]; simp
    have hyl : ls.length ≤ bs.length := by rw [hlen.2]; simp
    have hx1 := hx.sub 0 ls.length (by omega)
    have hy1 := hy.sub 0 ls.length (by omega)
    simp only [Nat.add_zero, List.drop_zero] at hx1 hy1
    have hrun := ih X Y _ _ _ _ hx1 hy1 o1
    have hx2 := hx.sub ls.length (as.length - ls.length) (by omega)
    have hy2 := hy.sub ls.length (bs.length - ls.length) (by omega)
    rw [List.take_of_length_le (by simp)] at hx2 hy2
    have e1 : i * ls.length + ls.length = (i + 1) * ls.length := by rw [Nat.succ_mul]
    rw [e1] at hx2 hy2
    have ih2 := run_eqArr hl hsz hz ih n (i + 1) _ _ hx2 hy2 o2
    have hcell : cellsEq as bs = (cellsEq (as.take ls.length) (bs.take ls.length) && cellsEq (as.drop ls.length) (bs.drop ls.length)) := by
      rw [← cellsEq_app (by simp; omega), List.take_append_drop, List.take_append_drop]
    have px : (Go.part e X (i * l.sz)).run P w = .ok (partV l.agg (i * l.sz) l.sz X) w := run_partV hl X (by rw [hsz]; have := hx.1; omega) hz
    have py : (Go.part e Y (i * l.sz)).run P w = .ok (partV l.agg (i * l.sz) l.sz Y) w := run_partV hl Y (by rw [hsz]; have := hy.1; omega) hz
    rw [hsz] at hrun px py ih2 ⊢
    rw [List.range'_succ, List.forIn_cons]
    simp only [eqBodyA, Sem.run_bind, px, py, hrun, Result.andThen_ok]
    rw [hcell]
    cases cellsEq (as.take ls.length) (bs.take ls.length) with
    | false => simp [Sem.run, pure, Sem.pure]
    | true =>
      simp only [Bool.not_true, Bool.false_eq_true, if_false, Bool.true_and]
      rw [← ih2]
      rfl
theorem run_equalIn : ∀ (k : Nat) (t : TypeId) (ls : List Leaf), leavesT P k t = some ls → ∀ (m : Nat), k ≤ m → ∀ (xs ys : Array Value) (ox oy : Nat) (as bs : List D), RepAt V xs ox as → RepAt V ys oy bs → leavesOk ls as bs →
    ∃ l, layT P t = some l ∧ l.sz = ls.length ∧ (Op.equalIn m t (partV l.agg ox l.sz xs) (partV l.agg oy l.sz ys)).run P w = .ok (cellsEq as bs) w
  | 0, t, ls, h => by simp [leavesT] at h
  | k + 1, t, ls, h => by
    intro m hm xs ys ox oy as bs hx hy hok
    obtain ⟨m, rfl⟩ : ∃ m', m = m' + 1 := ⟨m - 1, by omega⟩
    have hlen := leavesOk_len hok
    have leaf : ∀ lf : Leaf, ls = [lf] → layT P t = some ⟨false, 1⟩ → leafT P lf t →
        ∃ l, layT P t = some l ∧ l.sz = ls.length ∧ (Op.equalIn (m + 1) t (partV l.agg ox l.sz xs) (partV l.agg oy l.sz ys)).run P w = .ok (cellsEq as bs) w := by
      intro lf e hl ht
      subst e
      match as, bs, hok, hx, hy with
      | [a], [b], hok, hx, hy =>
        refine ⟨_, hl, rfl, ?_⟩
        obtain ⟨u, hu, hru⟩ := hx.2 0 a rfl
        obtain ⟨v, hv, hrv⟩ := hy.2 0 b rfl
        simp only [partV, Bool.false_eq_true, if_false]
        simp only [Nat.add_zero] at hu hv
        rw [hu, hv]
        rw [Option.getD_some, Option.getD_some, run_leaf hru hrv hok.1 ht]
        simp [cellsEq]
    unfold leavesT at h
    split at h <;> try (cases h; done)
    · rename_i ik hu hl
      cases h
      exact leaf .int rfl hl ⟨_, hu⟩
    · rename_i hu hl
      cases h
      exact leaf .bool rfl hl hu
    · rename_i hu hl
      cases h
      exact leaf .str rfl hl hu
    · -- a struct
      rename_i fs sz hu hl
      split at h
      · cases h
      rename_i hst
      split at h <;> try (cases h; done)
      rename_i ls' hfs
      split at h <;> try (cases h; done)
      rename_i hsz
      cases h
      refine ⟨_, hl, hsz.1.symm, ?_⟩
      simp only [partV, if_true]
      have hst' : P.stoodInHeld t = false := by
        cases e : P.stoodInHeld t with
        | false => rfl
        | true => simp [e] at hst
      unfold Op.equalIn
      simp only [Sem.run_bind, run_und hu, Result.andThen_ok, program, Sem.run, hst']
      have hx' := extr hx sz (by omega)
      have hy' := extr hy sz (by omega)
      generalize xs.extract ox (ox + sz) = X at hx' ⊢
      generalize ys.extract oy (oy + sz) = Y at hy' ⊢
      simp only [Bool.false_eq_true, if_false, pure, Sem.run]
      have hb := run_eqFs (P := P) (w := w) (V := V) (k := k) (m := m) (X := X) (Y := Y) (fun t ls ht xs ys ox oy as bs hx hy ho => run_equalIn k t ls ht m (by omega) xs ys ox oy as bs hx hy ho) fs.toList 0 _ as bs hfs hx' hy' hok
      have hb' : (forIn fs ((none, ()) : Option Bool × Unit) (eqBody m X Y)).run P w = .ok (if cellsEq as bs then (none, ()) else (some false, ())) w := by rw [← Array.forIn_toList]; exact hb
      refine (Sem.run_bind ..).trans ?_
      refine (congrArg (fun r => Result.andThen r _) hb').trans ?_
      cases cellsEq as bs <;> rfl
    · -- an array
      rename_i n e sz hu hl
      split at h
      · cases h
      split at h <;> try (cases h; done)
      rename_i ls' hle
      split at h <;> try (cases h; done)
      rename_i hsz
      cases h
      have hpos := leaves_pos k e ls' hle
      refine ⟨_, hl, by rw [flat_len]; exact hsz.1.symm, ?_⟩
      simp only [partV, if_true]
      unfold Op.equalIn
      have hlen2 : as.length = sz ∧ bs.length = sz := by rw [flat_len] at hlen; omega
      have hx' := extr hx sz (by omega)
      have hy' := extr hy sz (by omega)
      generalize xs.extract ox (ox + sz) = X at hx' ⊢
      generalize ys.extract oy (oy + sz) = Y at hy' ⊢
      have hn : 1 ≤ n := by
        rcases Nat.eq_zero_or_pos n with h0 | h0
        · rw [h0] at hsz; omega
        · exact h0
      have hle' : ∃ l, layT P e = some l ∧ l.sz = ls'.length := by
        have hx0 := hx'.sub 0 ls'.length (by rw [Nat.zero_add, hlen2.1, ← hsz.1]; exact Nat.le_mul_of_pos_left _ hn)
        have hy0 := hy'.sub 0 ls'.length (by rw [Nat.zero_add, hlen2.2, ← hsz.1]; exact Nat.le_mul_of_pos_left _ hn)
        have ho : leavesOk ls' ((as.drop 0).take ls'.length) ((bs.drop 0).take ls'.length) := by
          obtain ⟨n', rfl⟩ : ∃ n', n = n' + 1 := ⟨n - 1, by omega⟩
          rw [List.replicate_succ, List.flatten_cons] at hok
          exact (leavesOk_app hok).1
        obtain ⟨l, h1, h2, _⟩ := run_equalIn k e ls' hle m (by omega) X Y _ _ _ _ hx0 hy0 ho
        exact ⟨l, h1, h2⟩
      obtain ⟨l, hlay, hlsz⟩ := hle'
      have hb := run_eqArr (P := P) (w := w) (V := V) (m := m) (X := X) (Y := Y) hlay hlsz (by omega) (fun xs ys ox oy as bs hx hy ho => by
        obtain ⟨l', h1, _, h3⟩ := run_equalIn k e ls' hle m (by omega) xs ys ox oy as bs hx hy ho
        rw [hlay] at h1
        cases h1
        exact h3) n 0 as bs (by simpa using hx') (by simpa using hy') hok
      simp only [Sem.run_bind, run_und hu, Result.andThen_ok, run_lsize hlay]
      have hb' : (forIn [0:n] ((none, ()) : Option Bool × Unit) (eqBodyA m X Y e l.sz)).run P w = .ok (if cellsEq as bs then (none, ()) else (some false, ())) w := by
        rw [Std.Legacy.Range.forIn_eq_forIn_range']
        simpa [Std.Legacy.Range.size] using hb
      refine (congrArg (fun r => Result.andThen r _) hb').trans ?_
      cases cellsEq as bs <;> rfl

theorem isIface_und {t : TypeId} (h : isIface P t = true) : ∃ ms, P.underlying t = some (.interface ms) := by
  unfold isIface at h
  split at h
  · exact ⟨_, by assumption⟩
  · cases h
theorem isPtr_und {t : TypeId} (h : isPtr (tyT P t)) : ∃ e, P.underlying t = some (.pointer e) := by
  have h' : tyT P t = .ptr := by
    cases e : tyT P t <;> rw [e] at h <;> first | rfl | exact h.elim
  unfold tyT at h'
  split at h' <;> first | cases h' | skip
  all_goals first
    | exact ⟨_, by assumption⟩
    | (exfalso; revert h'; (repeat' split) <;> simp)

theorem run_eqD {op : BinOp} (ho : isEq op) {t : TypeId} {x y : Value} {b : Bool} (hx : ∀ k n, x ≠ .int k n) (he : (Op.equal t x y).run P w = .ok b w) (h1 : ∀ k n, y ≠ .int k n)
    (hb : (binOp op t x y).run P w = (do let r ← Op.equal t x y; pure (match op with | .eql => Value.bool r | _ => Value.bool (!r)) : Sem Value).run P w) :
    ∃ u, (binOp op t x y).run P w = .ok u w ∧ RepV V u (eqD op b) := by
  rw [hb]
  rcases ho with rfl | rfl
  · exact ⟨.bool b, by simp [Sem.run_bind, he, Sem.run, pure], .bool _⟩
  · exact ⟨.bool (!b), by simp [Sem.run_bind, he, Sem.run, pure], .bool _⟩

theorem run_binOpX {c : Bool} {op : BinOp} {t : TypeId} {x y : Value} {a b : D} (hx : RepV V x a) (hy : RepV V y b) (h : binOk P c op t a b) (w : World) :
    ∃ u, (binOp op t x y).run P w = .ok u w ∧ RepV V u (binV op a b) := by
  have base : binOk0 op (tyT P t) a b → ∃ u, (binOp op t x y).run P w = .ok u w ∧ RepV V u (binV op a b) := fun h => run_binOp hx hy h w
  have iface : ∀ r : Bool, isEq op → (Op.equal t x y).run P w = .ok r w → (∃ p q, x = .iface p q ∨ x = .nilIface) → (∃ p q, y = .iface p q ∨ y = .nilIface) → ∃ u, (binOp op t x y).run P w = .ok u w ∧ RepV V u (eqD op r) := by
    rintro r ho he ⟨p, q, hxx⟩ ⟨p', q', hyy⟩
    rcases ho with rfl | rfl <;> rcases hxx with rfl | rfl <;> rcases hyy with rfl | rfl <;>
      first
      | exact ⟨.bool r, by simp [binOp, Sem.run_bind, he, Sem.run, pure], .bool _⟩
      | exact ⟨.bool (!r), by simp [binOp, Sem.run_bind, he, Sem.run, pure], .bool _⟩
  have ptr : ∀ r : Bool, isEq op → (Op.equal t x y).run P w = .ok r w → (∃ p, x = .pointer p) → (∃ p, y = .pointer p) → ∃ u, (binOp op t x y).run P w = .ok u w ∧ RepV V u (eqD op r) := by
    rintro r ho he ⟨p, hxx⟩ ⟨p', hyy⟩
    subst hxx; subst hyy
    rcases ho with rfl | rfl
    · exact ⟨.bool r, by simp [binOp, Sem.run_bind, he, Sem.run, pure], .bool _⟩
    · exact ⟨.bool (!r), by simp [binOp, Sem.run_bind, he, Sem.run, pure], .bool _⟩
  have ifeq : ∀ u v : Value, isIface P t = true → x = u → y = v → ∀ r : Bool, ((u = .nilIface ∧ v = .nilIface ∧ r = true) ∨ (∃ p q, u = .iface p q ∧ v = .nilIface ∧ r = false) ∨ (∃ p q, u = .nilIface ∧ v = .iface p q ∧ r = false)) → (Op.equal t x y).run P w = .ok r w := by
    rintro u v hi rfl rfl r hr
    obtain ⟨ms, hu⟩ := isIface_und hi
    show (Op.equalIn (9999 + 1) t _ _).run P w = _
    rcases hr with ⟨rfl, rfl, rfl⟩ | ⟨p, q, rfl, rfl, rfl⟩ | ⟨p, q, rfl, rfl, rfl⟩ <;> (unfold Op.equalIn; simp only [Sem.run_bind, run_und hu, Result.andThen_ok]; rfl)
  have ptreq : ∀ u v : Option Addr, isPtr (tyT P t) → x = .pointer u → y = .pointer v → v = none → (Op.equal t x y).run P w = .ok u.isNone w := by
    rintro u v hi rfl rfl rfl
    obtain ⟨ms, hu⟩ := isPtr_und hi
    show (Op.equalIn (9999 + 1) t _ _).run P w = _
    cases u <;> (unfold Op.equalIn; simp only [Sem.run_bind, run_und hu, Result.andThen_ok]; rfl)
  cases a <;> cases b <;> (try exact base h) <;> (try exact h.elim)
  all_goals simp only [binOk] at h
  · obtain ⟨ho, hi, _⟩ := h
    cases hx; cases hy
    exact iface true ho (ifeq _ _ hi rfl rfl true (.inl ⟨rfl, rfl, rfl⟩)) ⟨0, .nilIface, .inr rfl⟩ ⟨0, .nilIface, .inr rfl⟩
  · obtain ⟨ho, hi⟩ := h
    cases hx; cases hy
    exact iface false ho (ifeq _ _ hi rfl rfl false (.inr (.inr ⟨_, _, rfl, rfl, rfl⟩))) ⟨0, .nilIface, .inr rfl⟩ ⟨_, _, .inl rfl⟩
  · obtain ⟨ho, hi⟩ := h
    cases hx; cases hy
    exact iface false ho (ifeq _ _ hi rfl rfl false (.inr (.inl ⟨_, _, rfl, rfl, rfl⟩))) ⟨_, _, .inl rfl⟩ ⟨0, .nilIface, .inr rfl⟩
  · obtain ⟨ho, hi⟩ := h
    cases hx; cases hy
    exact ptr true ho (ptreq _ _ hi rfl rfl rfl) ⟨_, rfl⟩ ⟨_, rfl⟩
  · -- structs
    rename_i as bs
    obtain ⟨ho, hag, hl⟩ := h
    unfold leavesOkO at hl
    split at hl
    · rename_i ls hls
      obtain ⟨vs, rfl, hs, hr⟩ := hx.agg_inv
      obtain ⟨us, rfl, hs', hr'⟩ := hy.agg_inv
      have hat : ∀ (vs : Array Value) (ds : List D), vs.size = ds.length → (∀ (i : Nat) v d, vs[i]? = some v → ds[i]? = some d → RepV V v d) → RepAt V vs 0 ds := by
        intro vs ds h1 h2
        refine ⟨by omega, ?_⟩
        intro j d hj
        have hlt : j < vs.size := by rw [h1]; exact (List.getElem?_eq_some_iff.1 hj).1
        exact ⟨vs[j], by simp [hlt], h2 j _ d (by simp [hlt]) hj⟩
      obtain ⟨l, h1, h2, h3⟩ := run_equalIn (P := P) (w := w) (V := V) 9 t ls hls 10000 (by omega) vs us 0 0 as bs (hat _ _ hs hr) (hat _ _ hs' hr') hl
      have hlen := leavesOk_len hl
      have hagg : l.agg = true := by simpa [isAggT, h1] using hag
      have he : (Op.equal t (.agg vs) (.agg us)).run P w = .ok (cellsEq as bs) w := by
          have e1 : partV l.agg 0 l.sz vs = .agg vs := by simp [partV, hagg]; right; omega
          have e2 : partV l.agg 0 l.sz us = .agg us := by simp [partV, hagg]; right; omega
          rw [e1, e2] at h3
          exact h3
      rcases ho with rfl | rfl
      · exact ⟨.bool _, by simp [binOp, Sem.run_bind, he, Sem.run, pure], .bool _⟩
      · exact ⟨.bool _, by simp [binOp, Sem.run_bind, he, Sem.run, pure], .bool _⟩
    · exact hl.elim
  · obtain ⟨ho, hi⟩ := h
    obtain ⟨ad, rfl, _⟩ := hx.eaddr_inv
    cases hy
    exact ptr false ho (ptreq _ _ hi rfl rfl rfl) ⟨_, rfl⟩ ⟨_, rfl⟩
  · obtain ⟨ho, hi⟩ := h
    obtain ⟨ad, _, rfl⟩ := hx.addr_inv
    cases hy
    exact ptr false ho (ptreq _ _ hi rfl rfl rfl) ⟨_, rfl⟩ ⟨_, rfl⟩

theorem leaves_guard {t : TypeId} {ls : List Leaf} (h : leavesT P 9 t = some ls) (ha : isAggT P t = true) : P.eqGuardType P.depth t = false := by
  unfold leavesT at h
  unfold isAggT at ha
  split at h <;> try (cases h; done)
  · rename_i hl; rw [hl] at ha; cases ha
  · rename_i hl; rw [hl] at ha; cases ha
  · rename_i hl; rw [hl] at ha; cases ha
  · split at h
    · cases h
    · rename_i hh
      simp only [Bool.or_eq_true, not_or, Bool.not_eq_true] at hh
      exact hh.2
  · split at h
    · cases h
    · rename_i hh
      simpa using hh
theorem run_eqGuardX {op : BinOp} {t : TypeId} {ox oy : Operand} {x y : Value} {a b : D} (hx : RepV V x a) (hy : RepV V y b) (h : binOk P (isConst ox || isConst oy) op t a b) (w : World) :
    (eqGuard op t ox oy x y).run P w = .ok () w := by
  have base : binOk0 op (tyT P t) a b → (eqGuard op t ox oy x y).run P w = .ok () w := fun h => by
    cases a <;> try exact h.elim
    all_goals (cases b <;> try exact h.elim)
    · rw [hx.bool_inv, hy.bool_inv]; cases op <;> simp [eqGuard, Sem.run, pure]
    · rw [hx.int_inv, hy.int_inv]; cases op <;> simp [eqGuard, Sem.run, pure]
    · rw [hx.str_inv, hy.str_inv]; cases op <;> simp [eqGuard, Sem.run, pure]
  cases a <;> cases b <;> (try exact base h) <;> (try exact h.elim)
  all_goals simp only [binOk] at h
  · obtain ⟨ho, hi, hc⟩ := h
    cases hx; cases hy
    clear base
    rcases ho with rfl | rfl <;> revert hc <;> cases ox <;> cases oy <;> simp [isConst, eqGuard, Sem.run_bind, Sem.run, pure]
  · cases hx; cases hy; cases op <;> simp [eqGuard, Sem.run, pure]
  · cases hx; cases hy; cases op <;> simp [eqGuard, Sem.run, pure]
  · cases hx; cases hy; cases op <;> simp [eqGuard, Sem.run, pure]
  · obtain ⟨ho, hag, hl⟩ := h
    unfold leavesOkO at hl
    split at hl
    · rename_i ls hls
      obtain ⟨vs, rfl, _⟩ := hx.agg_inv
      obtain ⟨us, rfl, _⟩ := hy.agg_inv
      have hg := leaves_guard hls hag
      rcases ho with rfl | rfl <;> simp [eqGuard, Sem.run_bind, program, hg, Sem.run, pure]
    · exact hl.elim
  · obtain ⟨ad, rfl, _⟩ := hx.eaddr_inv
    cases hy; cases op <;> simp [eqGuard, Sem.run, pure]
  · obtain ⟨ad, _, rfl⟩ := hx.addr_inv
    cases hy; cases op <;> simp [eqGuard, Sem.run, pure]
end
end Go.Abs
