/- Arguments opened, whatever plain type they have; no theorem of a claim. -/
import Derived.Test.YtdklpddmplflgaaDoorAbcLaw
import Derived.Deep.Slices
import Derived.SizedLaws
set_option linter.unusedSimpArgs false
set_option linter.unusedVariables false
namespace Go.Abs
open Go.ChangeShapes Go.WideShapes Go.ChangeAt Go.RowKit
inductive Sh where
  | int (k : IntKind)
  | bool
  | str
  | sl (z : Nat) (e : List Sh)
/-- how many bytes a cell takes, at the least -/
def Sh.bytes : Sh → Nat
  | .int k => k.bits / 8
  | .bool => 1
  | .str => 16
  | .sl _ _ => 24
def bytesL : List Sh → Nat
  | [] => 0
  | s :: ss => s.bytes + bytesL ss
mutual
/-- the datum fits the shape of one cell -/
def Fit : Sh → D → Prop
  | .int k, d => ∃ n : Int, d = .int k n ∧ k.min ≤ n ∧ n ≤ k.max
  | .bool, d => ∃ b, d = .bool b
  | .str, d => ∃ s : ByteArray, d = .str s ∧ s.size ≤ reachBytes
  | .sl z e, d => ∃ rows : List (List D), d = .sl z rows ∧ rows.length * bytesL e ≤ reachBytes ∧ ∀ r ∈ rows, FitL e r
def FitL : List Sh → List D → Prop
  | [], ds => ds = []
  | s :: ss, ds => ∃ d r, ds = d :: r ∧ Fit s d ∧ FitL ss r
end
theorem Fit.perm {s : Sh} {d : D} (h : Fit s d) : permOk d := by
  cases s <;> simp only [Fit] at h
  · obtain ⟨n, rfl, _⟩ := h; simp [permOk, cellOk, D.names]
  · obtain ⟨b, rfl⟩ := h; simp [permOk, cellOk, D.names]
  · obtain ⟨b, rfl, _⟩ := h; simp [permOk, cellOk, D.names]
  · obtain ⟨b, rfl, _⟩ := h; simp [permOk, cellOk, D.names]
theorem FitL.perm : ∀ {ss : List Sh} {ds : List D}, FitL ss ds → ∀ d ∈ ds, permOk d
  | [], ds, h, d, hd => by simp only [FitL] at h; subst h; cases hd
  | s :: ss, ds, h, d, hd => by
    simp only [FitL] at h
    obtain ⟨x, r, rfl, h1, h2⟩ := h
    rcases List.mem_cons.1 hd with rfl | hd
    · exact h1.perm
    · exact h2.perm d hd
theorem FitL.len : ∀ {ss : List Sh} {ds : List D}, FitL ss ds → ds.length = ss.length
  | [], ds, h => by simp only [FitL] at h; subst h; rfl
  | s :: ss, ds, h => by
    simp only [FitL] at h
    obtain ⟨x, r, rfl, h1, h2⟩ := h
    simp [h2.len]
theorem FitL.append : ∀ {ss tt : List Sh} {ds es : List D}, FitL ss ds → FitL tt es → FitL (ss ++ tt) (ds ++ es)
  | [], tt, ds, es, h, h' => by simp only [FitL] at h; subst h; exact h'
  | s :: ss, tt, ds, es, h, h' => by
    simp only [FitL] at h
    obtain ⟨x, r, rfl, h1, h2⟩ := h
    simp only [List.cons_append, FitL]
    exact ⟨x, r ++ es, rfl, h1, h2.append h'⟩
def RepL (C : Cx) : List Value → List D → Prop
  | [], ds => ds = []
  | v :: vs, ds => ∃ d r, ds = d :: r ∧ RepV C v d ∧ RepL C vs r
theorem RepL.append {C : Cx} : ∀ {vs ws : List Value} {ds es : List D}, RepL C vs ds → RepL C ws es → RepL C (vs ++ ws) (ds ++ es)
  | [], ws, ds, es, h, h' => by simp only [RepL] at h; subst h; exact h'
  | v :: vs, ws, ds, es, h, h' => by
    simp only [RepL] at h
    obtain ⟨x, r, rfl, h1, h2⟩ := h
    simp only [List.cons_append, RepL]
    exact ⟨x, r ++ es, rfl, h1, h2.append h'⟩
theorem RepL.get {C : Cx} : ∀ {vs : List Value} {ds : List D}, RepL C vs ds → vs.length = ds.length ∧ ∀ (j : Nat) v d, vs[j]? = some v → ds[j]? = some d → RepV C v d
  | [], ds, h => by simp only [RepL] at h; subst h; exact ⟨rfl, fun j v d h => by simp at h⟩
  | v :: vs, ds, h => by
    simp only [RepL] at h
    obtain ⟨x, r, rfl, h1, h2⟩ := h
    obtain ⟨h3, h4⟩ := h2.get
    refine ⟨by simp [h3], ?_⟩
    intro j u e hu he
    cases j with
    | zero => simp at hu he; subst hu; subst he; exact h1
    | succ j => simp at hu he; exact h4 j u e hu he
def shF (g : TypeId → Option (List Sh)) (P : Program) : List Field → Nat → Option (List Sh)
  | [], _ => some []
  | f :: fs, off => match g f.type, shF g P fs (off + P.cellsOf f.type) with
    | some s, some r => if f.offset = off ∧ s.length = P.cellsOf f.type then some (s ++ r) else none
    | _, _ => none
/-- the shape of a plain type -/
def shT (P : Program) : Nat → TypeId → Option (List Sh)
  | 0, _ => none
  | f + 1, t => match P.underlying t with
    | some (.int k) => some [.int k]
    | some .bool => some [.bool]
    | some .string => some [.str]
    | some (.slice e) => match shT P f e with
      | some s => if s.length = P.cellsOf e ∧ bytesL s ≤ P.bytesOf e then some [.sl (P.cellsOf e) s] else none
      | none => none
    | some (.struct fs) => match shF (shT P f) P fs.toList 0 with
      | some s => if s.length = P.cellsOf t then some s else none
      | none => none
    | some (.array n e) => match shT P f e with
      | some s => if s.length = P.cellsOf e ∧ n * P.cellsOf e = P.cellsOf t then some (List.replicate n s).flatten else none
      | none => none
    | _ => none
section
variable {H : Type} {enc : TypeId × Value → H} {P : Program} {W : World} {sp : Nat → Bool} {hd : Bool}
abbrev c0 (W : World) : Cx := cx W (fun _ => none) (fun _ => none)
theorem mem_weightsAll {e : TypeId} {d : DataW H} {q : Nat} : ∀ {l : List (DataW H)}, d ∈ l → q ∈ d.weights P e → q ∈ DataW.weightsAll P e l
  | x :: l, h, hq => by
    simp only [DataW.weightsAll, List.mem_append]
    rcases List.mem_cons.1 h with rfl | h
    · exact .inl hq
    · exact .inr (mem_weightsAll h hq)
theorem open_fields {g : TypeId → Option (List Sh)} {n : Nat} (ih : ∀ t ss cs x, g t = some ss → DataW.trod enc P W 0 sp hd n t cs = some x → (∀ m ∈ x.1.weights P t, m ≤ reachBytes) → ∃ ds, FitL ss ds ∧ RepL (c0 W) cs ds) :
    ∀ (fs : List Field) (off : Nat) (cs : List Value) (ss : List Sh), shF g P fs off = some ss → (∀ f ∈ fs, ∃ y, DataW.trod enc P W 0 sp hd n f.type ((cs.drop f.offset).take (P.cellsOf f.type)) = some y ∧ ∀ m ∈ y.1.weights P f.type, m ≤ reachBytes) →
      ∃ ds, FitL ss ds ∧ RepL (c0 W) ((cs.drop off).take ss.length) ds
  | [], off, cs, ss, h, _ => by simp only [shF, Option.some.injEq] at h; subst h; exact ⟨[], rfl, by simp [RepL]⟩
  | f :: fs, off, cs, ss, h, hf => by
    simp only [shF] at h
    split at h
    · rename_i s r hs hr
      split at h
      · rename_i hc
        obtain ⟨rfl, hl⟩ := hc
        simp only [Option.some.injEq] at h
        subst h
        obtain ⟨y, hy, hyw⟩ := hf f (by simp)
        obtain ⟨ds, h1, h2⟩ := ih _ _ _ _ hs hy hyw
        obtain ⟨es, h3, h4⟩ := open_fields ih fs _ cs r hr (fun x hx => hf x (by simp [hx]))
        refine ⟨ds ++ es, h1.append h3, ?_⟩
        have hlen := h2.get.1.trans (h1.len.trans hl)
        have e : (cs.drop f.offset).take (s ++ r).length = (cs.drop f.offset).take (P.cellsOf f.type) ++ (cs.drop (f.offset + P.cellsOf f.type)).take r.length := by
          rw [List.length_append, hl, List.take_add, List.drop_drop]
        rw [e]
        exact h2.append h4
      · cases h
    · cases h
theorem open_elems {e : TypeId} {n : Nat} {s : List Sh} {cs : List Value} : ∀ (k off : Nat), s.length = P.cellsOf e →
    (∀ i, i < k → ∃ ds, FitL s ds ∧ RepL (c0 W) ((cs.drop ((off + i) * P.cellsOf e)).take (P.cellsOf e)) ds) →
      ∃ ds, FitL (List.replicate k s).flatten ds ∧ RepL (c0 W) ((cs.drop (off * P.cellsOf e)).take (k * P.cellsOf e)) ds
  | 0, off, _, _ => ⟨[], by simp [FitL], by simp [RepL]⟩
  | k + 1, off, hl, h => by
    obtain ⟨ds, h1, h2⟩ := h 0 (by omega)
    obtain ⟨es, h3, h4⟩ := open_elems (n := n) k (off + 1) hl (fun i hi => by
      have := h (i + 1) (by omega)
      rwa [show off + (i + 1) = off + 1 + i by omega] at this)
    refine ⟨ds ++ es, by rw [List.replicate_succ, List.flatten_cons]; exact h1.append h3, ?_⟩
    have e' : (cs.drop (off * P.cellsOf e)).take ((k + 1) * P.cellsOf e) = (cs.drop (off * P.cellsOf e)).take (P.cellsOf e) ++ (cs.drop ((off + 1) * P.cellsOf e)).take (k * P.cellsOf e) := by
      rw [Nat.succ_mul k, Nat.add_comm (k * P.cellsOf e), List.take_add, List.drop_drop, Nat.succ_mul off]
    rw [e']
    simpa using h2.append h4
theorem open_sh : ∀ (f : Nat) (t : TypeId) (ss : List Sh) (fuel : Nat) (cs : List Value) x, shT P f t = some ss → DataW.trod enc P W 0 sp hd fuel t cs = some x → (∀ m ∈ x.1.weights P t, m ≤ reachBytes) → ∃ ds, FitL ss ds ∧ RepL (c0 W) cs ds := by
  intro f
  induction f with
  | zero => intro t ss fuel cs x h; simp [shT] at h
  | succ f ih =>
    intro t ss fuel cs x h hx hwt
    simp only [shT] at h
    split at h
    · rename_i k hk
      simp only [Option.some.injEq] at h
      subst h
      obtain ⟨n, rfl, _, hw⟩ := DataW.trod_int hk hx
      simp only [Lit.wf, Bool.and_eq_true, decide_eq_true_eq] at hw
      exact ⟨[.int k n], ⟨_, _, rfl, ⟨n, rfl, hw.1, hw.2⟩, rfl⟩, ⟨_, _, rfl, .int _ _, rfl⟩⟩
    · rename_i hk
      simp only [Option.some.injEq] at h
      subst h
      obtain ⟨b, rfl, _⟩ := DataW.trod_bool hk hx
      exact ⟨[.bool b], ⟨_, _, rfl, ⟨b, rfl⟩, rfl⟩, ⟨_, _, rfl, .bool _, rfl⟩⟩
    · rename_i hk
      simp only [Option.some.injEq] at h
      subst h
      obtain ⟨b, rfl, hxe, hs⟩ := DataW.trod_string hk hx
      have hs2 : b.size ≤ reachBytes := by
        rw [hxe] at hwt
        exact hwt _ (by simp [DataW.weights])
      exact ⟨[.str b], ⟨_, _, rfl, ⟨b, rfl, hs2⟩, rfl⟩, ⟨_, _, rfl, .str _, rfl⟩⟩
    · rename_i e hk
      split at h
      · rename_i s hs
        split at h
        · rename_i hl
          simp only [Option.some.injEq] at h
          subst h
          obtain ⟨hl, hlb⟩ := hl
          rcases Go.Deep.open_slice hk hx with ⟨rfl, _⟩ | ⟨a, len, cap, m, n, Dx, Pl, rfl, hb, hlc, hm, hmm, hxe, hel⟩
          · exact ⟨[.sl _ []], ⟨_, _, rfl, ⟨[], rfl, by simp, by simp⟩, rfl⟩, ⟨_, _, rfl, .slnil _, rfl⟩⟩
          · have hlm : len ≤ m := by rw [hmm]; split <;> omega
            rw [hxe] at hwt
            simp only [DataW.weights, hk] at hwt
            have hbytes : len * P.bytesOf e ≤ reachBytes := by
              have := hwt _ (List.mem_cons_self ..)
              simp only [List.length_map, List.length_range] at this
              exact Nat.le_trans (Nat.mul_le_mul_right _ (Nat.le_add_right _ _)) this
            have hwe : ∀ i, i < len → ∀ q ∈ (Dx i).weights P e, q ≤ reachBytes := fun i hi q hq => by
              refine hwt q (List.mem_cons_of_mem _ (List.mem_append_left _ ?_))
              exact mem_weightsAll (List.mem_map.2 ⟨i, List.mem_range.2 hi, rfl⟩) hq
            have hr : ∀ i, ∃ row : List D × List Value, i < len → FitL s row.1 ∧ RepL (c0 W) row.2 row.1 ∧ W.cells? 0 (a.add (i * P.cellsOf e)) (P.cellsOf e) = some row.2 := by
              intro i
              by_cases hi : i < len
              · obtain ⟨cs', h1, h2⟩ := hel i (by omega)
                obtain ⟨ds, h3, h4⟩ := ih _ _ _ _ _ hs h2 (hwe i hi)
                exact ⟨(ds, cs'), fun _ => ⟨h3, h4, h1⟩⟩
              · exact ⟨([], []), fun h => (hi h).elim⟩
            let R := fun i => (Classical.choose (hr i)).1
            let V := fun i => (Classical.choose (hr i)).2
            have hR : ∀ i, i < len → FitL s (R i) ∧ RepL (c0 W) (V i) (R i) ∧ W.cells? 0 (a.add (i * P.cellsOf e)) (P.cellsOf e) = some (V i) := fun i hi => Classical.choose_spec (hr i) hi
            have hrow : ∀ r ∈ (List.range len).map R, ∃ i, i < len ∧ r = R i := by
              intro r hr
              obtain ⟨i, hi, rfl⟩ := List.mem_map.1 hr
              exact ⟨i, List.mem_range.1 hi, rfl⟩
            refine ⟨[.sl _ ((List.range len).map R)], ⟨_, _, rfl, ⟨_, rfl, ?_, ?_⟩, rfl⟩, ⟨_, _, rfl, ?_, rfl⟩⟩
            · simp only [List.length_map, List.length_range]
              exact Nat.le_trans (Nat.mul_le_mul_left _ hlb) hbytes
            · intro r hr
              obtain ⟨i, hi, rfl⟩ := hrow r hr
              exact (hR i hi).1
            · have hlen : ((List.range len).map R).length = len := by simp
              have := RepV.sl (C := c0 W) (P.cellsOf e) a cap ((List.range len).map R) (fun i j => (V i).getD j Go.undef) (by rw [hlen]; exact hlc) ?_ ?_ ?_ ?_
              · rw [hlen] at this; exact this
              · intro r hr
                obtain ⟨i, hi, rfl⟩ := hrow r hr
                exact (hR i hi).1.len.trans hl
              · intro r hr d hd
                obtain ⟨i, hi, rfl⟩ := hrow r hr
                exact (hR i hi).1.perm d hd
              · intro i j r d hi hj
                simp only [List.getElem?_map] at hi
                by_cases hil : i < len
                · simp [hil] at hi
                  subst hi
                  obtain ⟨g1, g2, g3⟩ := hR i hil
                  obtain ⟨_, g4, g5⟩ := World.cells?_some g3
                  have hjl : j < P.cellsOf e := by have := (List.getElem?_eq_some_iff.1 hj).1; rw [g1.len, hl] at this; exact this
                  have := g5 j hjl
                  rw [Addr.add_add] at this
                  show vis W (fun _ => none) _ = _
                  unfold vis
                  simp only
                  rw [this]
                  simp [List.getD, List.getElem?_eq_getElem (show j < (V i).length by omega)]
                · simp [hil] at hi
              · intro i j r d hi hj
                simp only [List.getElem?_map] at hi
                by_cases hil : i < len
                · simp [hil] at hi
                  subst hi
                  obtain ⟨g1, g2, g3⟩ := hR i hil
                  obtain ⟨k1, k2⟩ := g2.get
                  have hjl : j < (V i).length := by rw [k1]; exact (List.getElem?_eq_some_iff.1 hj).1
                  refine k2 j _ d ?_ hj
                  simp [List.getD, List.getElem?_eq_getElem hjl]
                · simp [hil] at hi
        · cases h
      · cases h
    · rename_i fs hk
      split at h
      · rename_i s hs
        split at h
        · rename_i hl
          simp only [Option.some.injEq] at h
          subst h
          obtain ⟨xs, n, rfl, hxe, hcl, hxl, hf⟩ := DataW.trod_struct hk hx
          rw [hxe] at hwt
          simp only [DataW.weights, hk] at hwt
          obtain ⟨ds, h1, h2⟩ := open_fields (n := n) (g := shT P f) (fun t ss cs x h1 h2 h3 => ih t ss n cs x h1 h2 h3) fs.toList 0 cs s hs (by
            intro fl hfl
            obtain ⟨i, hi, he⟩ := List.getElem_of_mem hfl
            have hi' : i < fs.size := by simpa using hi
            have := hf i fl (by rw [Array.getElem?_eq_getElem hi']; simpa using he)
            rw [List.getElem?_eq_getElem (by omega)] at this
            refine ⟨_, this, fun m hm => hwt m ?_⟩
            have hi2 : i < xs.length := by omega
            exact DataW.weights_mem_each (j := i) (by rw [List.getElem?_map, List.getElem?_eq_getElem hi, he]; rfl) (by rw [List.getElem?_map, List.getElem?_eq_getElem hi2]; rfl) m hm)
          refine ⟨ds, h1, ?_⟩
          rw [hl, ← hcl] at h2
          simpa using h2
        · cases h
      · cases h
    · rename_i n e hk
      split at h
      · rename_i s hs
        split at h
        · rename_i hl
          simp only [Option.some.injEq] at h
          subst h
          obtain ⟨xs, m, rfl, hxe, hcl, hxl, hf⟩ := DataW.trod_array hk hx
          rw [hxe] at hwt
          simp only [DataW.weights, hk] at hwt
          obtain ⟨ds, h1, h2⟩ := open_elems (W := W) (P := P) (e := e) (n := m) (s := s) (cs := cs) n 0 hl.1 (by
            intro i hi
            have := hf i hi
            rw [List.getElem?_eq_getElem (by omega)] at this
            have h2 := ih _ _ _ _ _ hs this (fun q hq => hwt q (mem_weightsAll (List.mem_map.2 ⟨_, List.getElem_mem (by omega), rfl⟩) hq))
            simpa using h2)
          refine ⟨ds, h1, ?_⟩
          rw [hl.2, ← hcl] at h2
          simpa using h2
        · cases h
      · cases h
    · cases h
/-- what an argument of a plain type reads as -/
theorem open_agg {t : TypeId} {v : Value} {d : DataW H} {p : List MemPlace} {b0 : Nat} {fs : Array Field} {ss : List Sh} (ht : P.underlying t = some (.struct fs)) (hs : shT P 9 t = some ss) (hv : Value.okWide P W .any b0 t v) (h : DataW.Trod enc P W 0 sp hd t v d p) (hw : ∀ m ∈ d.weights P t, m ≤ reachBytes) :
    ∃ ds, FitL ss ds ∧ RepV (c0 W) v (.agg ds) := by
  obtain ⟨cs, rfl, _⟩ := okWide_struct ht hv
  obtain ⟨fuel, hf⟩ := h
  obtain ⟨ds, h1, h2⟩ := open_sh 9 t ss fuel _ _ hs hf hw
  refine ⟨ds, h1, ?_⟩
  obtain ⟨h3, h4⟩ := h2.get
  refine .agg cs ds (by simpa [Value.cells] using h3) ?_
  intro i v d hv hd
  exact h4 i v d (by simpa [Value.cells] using hv) hd
theorem open_sl {t e : TypeId} {v : Value} {d : DataW H} {p : List MemPlace} {b0 z : Nat} {s : List Sh} (ht : P.underlying t = some (.slice e)) (hs : shT P 9 t = some [.sl z s]) (hv : Value.okWide P W .any b0 t v) (h : DataW.Trod enc P W 0 sp hd t v d p) (hw : ∀ m ∈ d.weights P t, m ≤ reachBytes) :
    ∃ rows : List (List D), (rows.length * bytesL s ≤ reachBytes ∧ ∀ r ∈ rows, FitL s r) ∧ RepV (c0 W) v (.sl z rows) := by
  obtain ⟨a, len, cap, rfl⟩ := okWide_slice ht hv
  obtain ⟨fuel, hf⟩ := h
  obtain ⟨ds, h1, h2⟩ := open_sh 9 t _ fuel _ _ hs hf hw
  simp only [FitL, Fit] at h1
  obtain ⟨x, r, rfl, ⟨rows, rfl, hrb, hr⟩, rfl⟩ := h1
  exact ⟨rows, ⟨hrb, hr⟩, h2.get.2 0 _ _ rfl rfl⟩
theorem open_str {t : TypeId} {v : Value} {d : DataW H} {p : List MemPlace} {b0 : Nat} (ht : P.underlying t = some .string) (hv : Value.okWide P W .any b0 t v) (h : DataW.Trod enc P W 0 sp hd t v d p) (hw : ∀ m ∈ d.weights P t, m ≤ reachBytes) :
    ∃ s : ByteArray, v = .string s ∧ s.size ≤ reachBytes := by
  obtain ⟨s, rfl⟩ := okWide_string ht hv
  obtain ⟨fuel, hf⟩ := h
  obtain ⟨b, h1, hde, h2⟩ := DataW.trod_string ht hf
  simp [Value.cells] at h1
  subst h1
  simp only [Prod.mk.injEq] at hde
  rw [hde.1] at hw
  exact ⟨s, rfl, hw _ (by simp [DataW.weights])⟩
/-- what is known of all arguments, of one -/
theorem weights_at {ts : List TypeId} {ds : List (DataW H)} (h : (DataW.weightsEach P ts ds).all (· ≤ reachBytes) = true) (j : Nat) {t : TypeId} {d : DataW H} (ht : ts[j]? = some t) (hd : ds[j]? = some d) : ∀ m ∈ d.weights P t, m ≤ reachBytes := fun m hm => by
  have := List.all_eq_true.1 h m (DataW.weights_mem_each ht hd m hm)
  simpa using this
theorem open_i64 {t : TypeId} {v : Value} {d : DataW H} {p : List MemPlace} {b0 : Nat} (ht : P.underlying t = some (.int .i64)) (hv : Value.okWide P W .any b0 t v) (h : DataW.Trod enc P W 0 sp hd t v d p) :
    ∃ n : Int, v = .int .i64 n ∧ -9223372036854775808 ≤ n ∧ n ≤ 9223372036854775807 := by
  obtain ⟨n, rfl, _, _, hw⟩ := open_int ht hv h
  simp only [Lit.wf, Bool.and_eq_true, decide_eq_true_eq] at hw
  exact ⟨n, rfl, hw.1, hw.2⟩
/-- rows that fit are those of a list -/
theorem rows_of {A : Type} {s : List Sh} {c : A → List D} {ok : A → Prop} (h : ∀ r, FitL s r → ∃ x, ok x ∧ r = c x) : ∀ {rows : List (List D)}, (∀ r ∈ rows, FitL s r) → ∃ xs : List A, rows = xs.map c ∧ ∀ x ∈ xs, ok x
  | [], _ => ⟨[], rfl, by simp⟩
  | r :: rows, hr => by
    obtain ⟨x, hx, rfl⟩ := h r (hr r (by simp))
    obtain ⟨xs, rfl, hxs⟩ := rows_of (rows := rows) h (fun r hm => hr r (List.mem_cons_of_mem _ hm))
    exact ⟨x :: xs, rfl, by simpa using ⟨hx, hxs⟩⟩
end
end Go.Abs
