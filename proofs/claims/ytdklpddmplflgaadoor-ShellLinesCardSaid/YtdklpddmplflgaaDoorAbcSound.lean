/- The predicate of AbcWp is enough for the model's own; no theorem of a claim. -/
import Derived.Test.YtdklpddmplflgaaDoorAbcWp
set_option linter.unusedSimpArgs false
set_option linter.unusedVariables false
namespace Go.Abs

theorem wrap64_id {x : Int} (h1 : -9223372036854775808 ≤ x) (h2 : x < 9223372036854775808) : IntKind.i64.wrap x = x := by
  simp [IntKind.wrap, IntKind.signed, IntKind.bits]
  split <;> omega
theorem flat_get {zc : List D} {z : Nat} (hz : zc.length = z) (hz0 : z ≠ 0) : ∀ (n m : Nat), m < n * z → (List.replicate n zc).flatten[m]? = zc[m % z]?
  | 0, m, h => by simp at h
  | n + 1, m, h => by
    rw [List.replicate_succ, List.flatten_cons]
    by_cases hm : m < z
    · rw [List.getElem?_append_left (by omega), Nat.mod_eq_of_lt hm]
    · rw [List.getElem?_append_right (by omega), hz, flat_get hz hz0 n (m - z) (by rw [Nat.succ_mul] at h; omega)]
      congr 1
      rw [← Nat.mod_eq_sub_mod (by omega)]
theorem flat_length {zc : List D} {z : Nat} (hz : zc.length = z) (n : Nat) : (List.replicate n zc).flatten.length = n * z := by
  simp [List.length_flatten, hz]

section
variable {P : Program}
theorem zero_cells {e : TypeId} {zc : List D} (h : zeroT P e = some zc) (w : World) : ∃ zv, (zeroValue e).run P w = .ok zv w ∧ zv.cells.size = zc.length ∧ ∀ (V : Cx) (i : Nat) v d, zv.cells[i]? = some v → zc[i]? = some d → RepV V v d := by
  unfold zeroT at h
  cases hi : P.info? e with
  | none => rw [hi] at h; cases h
  | some inf =>
    simp only [hi] at h
    cases hzv : inf.zero with
    | none => rw [hzv] at h; cases h
    | some zv =>
      rw [hzv] at h
      cases h
      refine ⟨zv, by simp [zeroValue, Sem.run_bind, run_info hi, hzv, Sem.run, pure], by simp, ?_⟩
      intro V i v d hv hd
      simp only [List.getElem?_map] at hd
      have : zv.cells.toList[i]? = some v := by simpa using hv
      rw [this] at hd
      simp at hd
      subst hd
      exact repV_constC v

end

section
variable {P : Program} {n : Nat} {w0 w w' : World} {l0 : Nat → Option Nat} {G : Nat → Option (Nat × Nat)} {S0 : Nat → Option Value} {lev lev' own own' : Nat → Option Nat} {S S' : Nat → Option Value} {env env' : Env} {tm tm' : Nat → Value} {B : Nat} {gs : List Nat} {bw : Bool}

theorem upon_value {o : Oper} {a : Act} {next : Act → World → Prop} {Q : Exit → Act → World → Prop} {u : Value} {d : Nat} (hd : o.dst = some d) (hr : (execOp a.eval o).run P w = .ok (.value u) w')
    (h : next { a with tmps := a.tmps.setIfInBounds d u } w') : o.wp P a w next Q := by
  unfold Oper.wp
  rw [hr]
  simp only [Oper.upon, hd, Act.put]
  exact h
/-- a value that was made goes into its slot -/
theorem go_next {a : Act} {d : Nat} {u : Value} {K : Env → Prop} {next : Act → World → Prop} (hn : a.tmps.size = n) (hdf : a.defers = []) (hnext : Cont n w0 l0 G S0 K next) (hd : d < n)
    {e' : Env} {lev' own' : Nat → Option Nat} {S' : Nat → Option Value} {w' : World} (hi : Inv w0 l0 G S0 w' lev' own' S' e' (updv (tmOf a.tmps) d u)) (hK : K e') : next { a with tmps := a.tmps.setIfInBounds d u } w' :=
  hnext e' lev' own' S' w' _ (by simpa using hn) hdf (by rw [tmOf_set (by omega)]; exact hi) hK

/-- a call -/
theorem call_soundE {a : Act} (h : Inv w0 l0 G S0 w lev own S env (tmOf a.tmps)) (hn : a.tmps.size = n) (hdf : a.defers = []) {c : Call} {f : Operand} (hcal : c.callee = .value f) {d : Nat} (hd : d < n) {o : Oper} (hop : o.op = .call c) (hdst : o.dst = some d) {dr : Bool} {K : Env → Prop} {next : Act → World → Prop} {Q : Exit → Act → World → Prop}
    (hnext : Cont n w0 l0 G S0 K next) {fz gs : List Nat} {bw : Bool} {Φ : List D → D → Prop} (hk : CallAE P (frzEL fz env) d c.args.toList gs bw Φ (KW dr K) (rd (frzEL fz env) f)) : o.wp P a w next Q := by
  obtain ⟨lev1, S1, h1⟩ := Inv.frzL fz h (fun _ _ => trivial)
  generalize frzEL fz env = env1 at h1 hk
  unfold CallAE at hk
  have hof := h1.opd a rfl f
  split at hk <;> try exact hk.elim
  rename_i k caps hf
  rw [hf] at hof
  obtain ⟨hnd, hlive, ⟨hent, hsp⟩, hall⟩ := hk
  obtain ⟨cv, hv, hcs, hcc⟩ := hof.fn_inv
  obtain ⟨fn, e1, e2, e3⟩ := hent
  let vs : Array Value := c.args.map a.eval ++ cv
  have hr : (execOp a.eval o).run P w = .ok (.enter k vs) w := by
    have e3' : fn.name ≠ "runtime.NumGoroutine" := by simpa using e3
    have e2' : fn.body ≠ none := by rintro e; rw [e] at e2; cases e2
    simp [execOp, hop, resolve, hcal, hv, Deferred.ofValue, Sem.run_bind, invoke, callFunc, program, e1, e3', e2', Sem.run, pure, vs]
  have hrep : ∀ (i : Nat) v x, vs[i]? = some v → (c.args.toList.map (rd env1) ++ caps)[i]? = some x → RepV (cx w lev1 S1) v x := by
    intro i v x hi hx
    have hl : (c.args.map a.eval).size = (c.args.toList.map (rd env1)).length := by simp
    by_cases hlt : i < (c.args.map a.eval).size
    · simp only [vs] at hi
      rw [Array.getElem?_append_left hlt] at hi
      rw [List.getElem?_append_left (by rw [← hl]; exact hlt)] at hx
      simp only [Array.getElem?_map, List.getElem?_map] at hi hx
      have hx' : c.args[i]? = c.args.toList[i]? := by simp
      rw [hx'] at hi
      cases hy : c.args.toList[i]? with
      | none => rw [hy] at hi; cases hi
      | some y =>
        rw [hy] at hi hx
        cases hi; cases hx
        exact h1.opd a rfl y
    · simp only [vs] at hi
      rw [Array.getElem?_append_right (by omega)] at hi
      rw [List.getElem?_append_right (by rw [← hl]; omega)] at hx
      rw [← hl] at hx
      exact hcc _ v x hi hx
  have hsz : vs.size = ((c.args.toList.map (rd env1) ++ caps).map (conv bw gs env1.o 4)).length := by simp [vs, hcs]
  have hc := hsp w (l0of bw gs lev1 own) (G0of gs S1 env1.o) (own0of gs own) (S0of gs S1) vs
    (by
      intro t ht
      obtain ⟨t1, E, x, c9, t2, t3⟩ := h1.os.2 t ht
      have hlt := lt_of_block t2
      refine ⟨?_, E, x, c9, (h1.old _ hlt t1).trans t2, t3⟩
      cases hg : G0of gs S1 env1.o t.1 with
      | none => rfl
      | some p =>
        obtain ⟨lo, hi⟩ := p
        obtain ⟨r, hr, u, hu, hbk⟩ := G0_some hg
        obtain ⟨_, _, hin, _⟩ := (h1.objs r).blk hu hbk
        rcases hin with hin | ⟨_, _, hin, _⟩
        · omega
        · rw [t1] at hin; cases hin)
    (by
      intro b m hb
      rcases l0of_or (bw := bw) (gs := gs) (lev := lev1) (own := own) b with e | e
      · rw [e] at hb; exact h1.priv b m hb
      · rw [e] at hb; cases hb)
    (by
      intro b lo hi hg
      obtain ⟨r, hr, u, hu, hbk⟩ := G0_some hg
      obtain ⟨_, _, _, cc, E, hb⟩ := (h1.objs r).blk hu hbk
      exact ⟨cc, cc, E, hb, hb, rfl, fun _ _ => rfl⟩)
    hsz
    (by
      intro i v x hi hx
      simp only [List.getElem?_map] at hx
      cases hy : (c.args.toList.map (rd env1) ++ caps)[i]? with
      | none => rw [hy] at hx; cases hx
      | some y => rw [hy] at hx; cases hx; exact conv_rep h1 4 y v (hrep i v y hi hy))
    (by
      intro r
      by_cases hlt : r < gs.length
      · have hg : gs[r]? = some gs[r] := List.getElem?_eq_getElem hlt
        have : (gs.map fun r => convO bw gs env1.o 4 (env1.o r)).getD r .undef = convO bw gs env1.o 4 (env1.o gs[r]) := by simp [List.getD, hg]
        rw [this]
        exact conv_obj h1 hnd hg 4 (hlive _ (List.getElem_mem hlt))
      · have : (gs.map fun r => convO bw gs env1.o 4 (env1.o r)).getD r .undef = .undef := by simp [List.getD, hlt]
        rw [this]
        show S0of gs S1 r = none
        simp [S0of, hlt])
  unfold Oper.wp
  rw [hr]
  simp only [Oper.upon]
  refine hc.mono ?_
  rintro e w' ⟨v, hs', dv, hΦ, rfl, hout⟩
  obtain ⟨hfresh, hlen, hperm, hK⟩ := hall hs' dv hΦ
  simp only [List.length_map] at hout
  obtain ⟨lev', own', S', hi⟩ := h1.call (d := d) hnd hlive hfresh hlen.1 hperm hout
  simp only [hdst, Act.put]
  rcases hK with hK | ⟨_, ts, os, hl, hK⟩
  · exact go_next hn hdf hnext hd hi hK
  · obtain ⟨rh, hle⟩ := hl.le
    obtain ⟨own2, S2, hi2⟩ := hi.le hle
    exact go_next hn hdf hnext hd hi2 hK

theorem CallA.toE {e : Env} {d : Nat} {args : List Operand} {gs : List Nat} {bw : Bool} {hs' : List D} {dv : D} {K : Env → Prop} {fv : D} (h : CallA P e d args gs bw hs' dv K fv) : CallAE P e d args gs bw (fun a b => a = hs' ∧ b = dv) K fv := by
  unfold CallA at h
  unfold CallAE
  split at h <;> try exact h.elim
  obtain ⟨h1, h2, h3, h4, h5, h6, h7⟩ := h
  refine ⟨h1, h2, ⟨h6.1, ?_⟩, ?_⟩
  · intro w l0 G0 own0 S0 vs a1 a2 a3 a4 a5 a6
    refine (h6.2 w l0 G0 own0 S0 vs a1 a2 a3 a4 a5 a6).mono ?_
    rintro e w' ⟨v, he, ho⟩
    exact ⟨v, hs', dv, ⟨rfl, rfl⟩, he, ho⟩
  · rintro _ _ ⟨rfl, rfl⟩
    exact ⟨h3, h4, h5, h7⟩
theorem call_sound {a : Act} (h : Inv w0 l0 G S0 w lev own S env (tmOf a.tmps)) (hn : a.tmps.size = n) (hdf : a.defers = []) {c : Call} {f : Operand} (hcal : c.callee = .value f) {d : Nat} (hd : d < n) {o : Oper} (hop : o.op = .call c) (hdst : o.dst = some d) {dr : Bool} {K : Env → Prop} {next : Act → World → Prop} {Q : Exit → Act → World → Prop}
    (hnext : Cont n w0 l0 G S0 K next) (hk : CallT P dr env d f c.args.toList K) : o.wp P a w next Q := by
  obtain ⟨fz, gs, bw, hs', dv, _, hk⟩ := hk
  exact call_soundE h hn hdf hcal hd hop hdst hnext hk.toE
/-- a call by a property -/
theorem SemK.callE {c : Call} {f : Operand} (hcal : c.callee = .value f) {d : Nat} (hd : d < n) {o : Oper} (hop : o.op = .call c) (hdst : o.dst = some d) {K : Env → Prop} {fz gs : List Nat} {bw : Bool} {Φ : List D → D → Prop} (hk : CallAE P (frzEL fz env) d c.args.toList gs bw Φ K (rd (frzEL fz env) f)) : SemK P n o env K := by
  intro w0 l0 G S0 w lev own S a next Q h hn hdf hnext
  refine call_soundE (dr := false) (fz := fz) (gs := gs) (bw := bw) (Φ := Φ) h hn hdf hcal hd hop hdst hnext ?_
  unfold CallAE at hk ⊢
  split at hk <;> try exact hk.elim
  obtain ⟨h1, h2, h3, h4⟩ := hk
  exact ⟨h1, h2, h3, fun hs' dv hΦ => by
    obtain ⟨a1, a2, a3, a4⟩ := h4 hs' dv hΦ
    exact ⟨a1, a2, a3, .inl a4⟩⟩

theorem st_sound {a : Act} (h : Inv w0 l0 G S0 w lev own S env (tmOf a.tmps)) (hn : a.tmps.size = n) (hdf : a.defers = []) {x ad : Operand} {t : TypeId} {K : Env → Prop} {next : Act → World → Prop}
    (hnext : Cont n w0 l0 G S0 K next) (hk : StK P env t (rd env ad) K (rd env x)) : ∃ w', (Instr.storeAt t (a.eval ad) (a.eval x)).run P w = .ok () w' ∧ next a w' := by
  have hop := h.opd a rfl x
  have hoa := h.opd a rfl ad
  unfold StK at hk
  cases hra : rd env ad <;> rw [hra] at hk hoa <;> try exact hk.elim
  · rename_i r off
    simp only at hk
    unfold StB at hk
    cases ho : env.o r <;> rw [ho] at hk <;> try exact hk.elim
    rename_i cs
    simp only at hk
    cases hl : layT P t with
    | none => rw [hl] at hk; exact hk.elim
    | some l =>
      rw [hl] at hk
      obtain ⟨h1, h2, h3, hK⟩ := hk
      obtain ⟨w', hr, hi⟩ := h.storeBox ho hl hop h3 h2 h1 hoa
      exact ⟨w', hr, hnext _ _ _ _ _ a hn hdf hi hK⟩
  · rename_i r z i k
    simp only at hk
    unfold StO at hk
    cases ho : env.o r <;> rw [ho] at hk <;> try exact hk.elim
    rename_i z' rows
    simp only at hk
    cases hl : layT P t with
    | none => rw [hl] at hk; exact hk.elim
    | some l =>
      rw [hl] at hk
      obtain ⟨rfl, h1, h2, h3, h4, hK⟩ := hk
      obtain ⟨w', hr, hi⟩ := h.storeOwn ho hl hop h4 h3 h1 h2 hoa
      exact ⟨w', hr, hnext _ _ _ _ _ a hn hdf hi hK⟩

/-- a box was made at the end of the heap -/
theorem boxed {d : Nat} (h : Inv w0 l0 G S0 w lev own S env tm) {vs : Array Value} {cs : List D} (T : TypeId) (hsz : vs.size = cs.length) (hrep : ∀ (j : Nat) u e, vs[j]? = some u → cs[j]? = some e → RepV (cx w lev S) u e) (hf : env.o (nm d 0) = .undef) :
    ∃ lev' own' S', Inv w0 l0 G S0 (w.alloc (.cells vs T)) lev' own' S' (updT (updO env (nm d 0) (.box cs)) d (.addr (nm d 0) 0)) (updv tm d (.pointer (some ⟨w.heap.size, 0, none⟩))) := by
  have hi := h.newBox (nm_ge d 0) hf T hsz hrep
  refine ⟨_, _, _, hi.put ?_⟩
  have := RepV.addr (C := cx (w.alloc (.cells vs T)) (setO lev w.heap.size (some 0)) (setO S (nm d 0) (some (.pointer (some ⟨w.heap.size, 0, none⟩))))) (nm d 0) 0 ⟨w.heap.size, 0, none⟩ (setO_same _ _ _)
  simpa [Addr.add] using this
theorem owned {d : Nat} {w' : World} {v : Value} {x : D} {e : Env} (hi : Inv w0 l0 G S0 w' lev' own' S' (updO e (nm d 0) x) tm) (hS : S' (nm d 0) = some v) (hv : ∃ a l c, v = .slice a l c) : Inv w0 l0 G S0 w' lev' own' S' (updT (updO e (nm d 0) x) d (.ref (nm d 0))) (updv tm d v) := by
  obtain ⟨a, l, c, rfl⟩ := hv
  exact hi.put (.ref (nm d 0) a l c hS)

theorem box_sound {a : Act} (h : Inv w0 l0 G S0 w lev own S env (tmOf a.tmps)) (hn : a.tmps.size = n) (hdf : a.defers = []) {x : Operand} {T : TypeId} {d : Nat} (hdn : d < n) {K : Env → Prop} {next : Act → World → Prop}
    (hnext : Cont n w0 l0 G S0 K next) (hk : BoxK env d K (rd env x)) :
    next { a with tmps := a.tmps.setIfInBounds d (.pointer (some ⟨w.heap.size, 0, none⟩)) } (w.alloc (.cells (a.eval x).cells T)) := by
  obtain ⟨h1, h2, hK⟩ := hk
  obtain ⟨c1, c2, c3⟩ := rep_cellsOf (h.opd a rfl x) h1
  obtain ⟨_, _, _, hi⟩ := boxed h T c1 c3 h2
  exact go_next hn hdf hnext hdn hi hK

theorem slIs_of_bor (h : Inv w0 l0 G S0 w lev own S env tm) {v : Value} {y : D} (hy : RepV (cx w lev S) v y) {z : Nat} {rows : List (List D)} (hr : rowsD z (bor env.o [] 2 y) = some rows) (S' : Nat → Option Value) : SlIs w (cx w lev S') v z rows := by
  have hb := bor_rep (gs := []) h (fun _ => none) 2 y v hy
  unfold rowsD at hr
  split at hr <;> try (cases hr; done)
  · rename_i z' rows' e
    rw [e] at hb
    split at hr <;> try (cases hr; done)
    rename_i ez
    cases hr
    subst ez
    have h1 := SlIs.of_sl (w := w) (fun a v => vis_cell) hb
    obtain ⟨a, cap, rfl, q1, q2, q3, q4, q5⟩ := h1
    -- the cells are read in the caller's own terms
    refine ⟨a, cap, rfl, q1, q2, q3, q4, ?_⟩
    clear hb q5
    have key : ∀ y : D, RepV (cx w lev S) (.slice a rows.length cap) y → bor env.o [] 2 y = .sl z' rows → ∀ ad, a = some ad → ∀ (i j : Nat) row x, rows[i]? = some row → row[j]? = some x → ∃ u, w.cell? (ad.add (i * z' + j)) = some u ∧ RepV (cx w lev S') u x := by
      intro y hy e ad ha i j row x hi hj
      have hpm := q3 row (List.mem_of_getElem? hi) x (List.mem_of_getElem? hj)
      cases y with
      | sl z2 rows2 =>
        simp only [bor] at e
        cases e
        obtain ⟨a', cap', ev, _, _, _, _, hc⟩ := hy.sl_inv
        cases ev
        obtain ⟨u, hu, hru⟩ := hc ad ha i j row x hi hj
        exact ⟨u, vis_cell hu, hru.vkeep (.refl _ _) (by rw [hpm.2]; simp)⟩
      | ref r =>
        simp only [bor, hideIf, List.contains_nil, Bool.false_eq_true, if_false] at e
        cases ho : env.o r <;> rw [ho] at e <;> simp only [borSl] at e <;> try (cases e; done)
        cases e
        obtain ⟨a', cap', hS, _, _, _, _, hc⟩ := h.own_head ho
        obtain ⟨hS', _⟩ := hy.ref_inv
        simp only [cx] at hS'
        rw [hS] at hS'
        cases hS'
        obtain ⟨u, hu, hru⟩ := hc ad ha i j row x hi hj
        exact ⟨u, hu, hru.vkeep (.refl _ _) (by rw [hpm.2]; simp)⟩
      | osub r z lo len =>
        simp only [bor, hideIf, List.contains_nil, Bool.false_eq_true, if_false] at e
        cases ho : env.o r <;> rw [ho] at e <;> simp only [borSub] at e <;> try (cases e; done)
        split at e <;> try (cases e; done)
        rename_i hz
        obtain ⟨rfl, hlen⟩ := hz
        cases e
        obtain ⟨a', cap', hS, _, _, _, _, hc⟩ := h.own_head ho
        obtain ⟨b0, b1, L, c0, c1, hS', ev, g1, _⟩ := hy.osub_inv
        simp only [cx] at hS'
        rw [hS] at hS'
        cases hS'
        have hil : i < len := by have := (List.getElem?_eq_some_iff.1 hi).1; simp at this; omega
        obtain ⟨b, rfl, hb1⟩ := g1 (by omega)
        have ea : a = b1 := by injection ev
        rw [ea, hb1] at ha
        cases ha
        rw [List.getElem?_take_of_lt hil, List.getElem?_drop] at hi
        obtain ⟨u, hu, hru⟩ := hc b rfl (lo + i) j row x hi hj
        refine ⟨u, ?_, hru.vkeep (.refl _ _) (by rw [hpm.2]; simp)⟩
        rw [add_add, ← hu]
        congr 2; rw [Nat.add_mul]; omega
      | bsub r off z len bcap =>
        simp only [bor, hideIf, List.contains_nil, Bool.false_eq_true, if_false] at e
        cases ho : env.o r <;> rw [ho] at e <;> simp only [borBs] at e <;> try (cases e; done)
        split at e <;> try (cases e; done)
        cases e
        obtain ⟨b0, b1, c1, hS', ev, g1, _⟩ := hy.bsub_inv
        have hcl := h.box_cells ho hS'
        have hil : i < len := by have := (List.getElem?_eq_some_iff.1 hi).1; rw [rowsOf_len] at this; exact this
        have hb1 := g1 (by omega)
        have ea : a = b1 := by injection ev
        rw [ea, hb1] at ha
        cases ha
        have hrow := rowsOf_at _ _ _ _ _ hi
        subst hrow
        have hjz : j < z' := by have := (List.getElem?_eq_some_iff.1 hj).1; simp at this; omega
        rw [List.getElem?_take_of_lt hjz, List.getElem?_drop, List.getElem?_drop] at hj
        obtain ⟨u, hu, hru⟩ := hcl _ x hj
        refine ⟨u, ?_, hru.vkeep (.refl _ _) (by rw [hpm.2]; simp)⟩
        rw [add_add]; exact hu
      | addr r off => simp only [bor, hideIf, List.contains_nil, Bool.false_eq_true, if_false] at e; unfold borBox at e; split at e <;> cases e
      | oaddr r z i' k => simp only [bor, hideIf, List.contains_nil, Bool.false_eq_true, if_false] at e; unfold borEa at e; (split at e <;> try split at e) <;> cases e
      | _ => simp only [bor] at e <;> cases e
    exact key y hy e
  · rename_i e
    rw [e] at hb
    cases hr
    cases hb
    exact SlIs.nil z none
  · rename_i e
    rw [e] at hb
    cases hr
    cases hb
    exact SlIs.nil z _

theorem app_sound {a : Act} (h : Inv w0 l0 G S0 w lev own S env (tmOf a.tmps)) (hn : a.tmps.size = n) (hdf : a.defers = []) {x y : Operand} {T T2 T3 : TypeId} {d : Nat} (hd : d < n) {K : Env → Prop} {next : Act → World → Prop}
    (hnext : Cont n w0 l0 G S0 K next) (hk : AppK env d K (rd env x) (rd env y) (tyT P T) (tyT P T2)) :
    ∃ u w', (Builtin.append_ #[T, T2] T3 #[a.eval x, a.eval y]).run P w = .ok u w' ∧ next { a with tmps := a.tmps.setIfInBounds d u } w' := by
  have hox := h.opd a rfl x
  have hoy := h.opd a rfl y
  unfold AppK at hk
  cases hT : tyT P T <;> rw [hT] at hk <;> try exact hk.elim
  cases hT2 : tyT P T2 <;> rw [hT2] at hk <;> try exact hk.elim
  rename_i z by_ ea z2 by2 ea2
  obtain ⟨hby, hk⟩ := hk
  have hu2 : ∃ e, P.underlying T2 = some (.slice e) := by
    obtain ⟨e, _, hu, _⟩ := tyT_slice hT2
    exact ⟨e, hu⟩
  have fin0 : ∀ (ad : Option Addr) (rows2 : List (List D)), a.eval x = .slice ad 0 0 → SlIs w (cx w lev S) (a.eval y) z rows2 → (by_ + (1 - by_)) * rows2.length ≤ 2 ^ 47 → env.o (nm d 0) = .undef → K (updT (updO env (nm d 0) (.own z rows2)) d (.ref (nm d 0))) →
      ∃ u w', (Builtin.append_ #[T, T2] T3 #[a.eval x, a.eval y]).run P w = .ok u w' ∧ next { a with tmps := a.tmps.setIfInBounds d u } w' := by
    intro ad rows2 hx hy hb hf hK
    obtain ⟨v, w', _, _, _, hr, hi, hS, hv⟩ := h.append0 (N := nm d 0) (nm_ge d 0) hf hT hu2 (a := ad) hy hb T3
    rw [hx]
    exact ⟨v, w', hr, go_next hn hdf hnext hd (owned hi hS hv) hK⟩
  unfold AppY at hk
  split at hk
  · rename_i rows2 hx hy
    rw [hx] at hox
    have hxv : a.eval x = .slice none 0 0 := by generalize a.eval x = v at hox; cases hox; rfl
    exact fin0 _ _ hxv (slIs_of_bor h hoy hy S) hk.1 hk.2.1 hk.2.2
  · rename_i rows2 hx hy
    rw [hx] at hox
    have hxv : ∃ ad, a.eval x = .slice ad 0 0 := by generalize a.eval x = v at hox; cases hox; exact ⟨_, rfl⟩
    obtain ⟨ad, hxv⟩ := hxv
    exact fin0 _ _ hxv (slIs_of_bor h hoy hy S) hk.1 hk.2.1 hk.2.2
  · rename_i r rows2 hx hy
    rw [hx] at hox
    obtain ⟨hS, _⟩ := hox.ref_inv
    unfold AppA at hk
    cases ho : env.o r <;> rw [ho] at hk <;> try exact hk.elim
    rename_i z' rows
    obtain ⟨rfl, hb, hf, hK⟩ := hk
    obtain ⟨v, w', _, _, _, hr, hi, hS', hv⟩ := h.append1 (N := nm d 0) ho (nm_ge d 0) hf hT hu2 hS (slIs_of_bor h hoy hy S) hb hby T3
    exact ⟨v, w', hr, go_next hn hdf hnext hd (owned hi hS' hv) hK⟩
  · exact hk.elim

theorem bs_sound {a : Act} {env : Env} (h : Inv w0 l0 G S0 w lev own S env (tmOf a.tmps)) (hn : a.tmps.size = n) (hdf : a.defers = []) {t : TypeId} {len d : Nat} {parts : Array (Nat × Operand)} (hd : d < n) {K : Env → Prop} {next : Act → World → Prop}
    (hnext : Cont n w0 l0 G S0 K next) (hk : BsK env len parts.toList d K (tyT P t) (zeroElemT P t)) :
    ∃ u w', (Instr.buildSlice t len (parts.map fun x => (x.1, a.eval x.2))).run P w = .ok u w' ∧ next { a with tmps := a.tmps.setIfInBounds d u } w' := by
  unfold BsK at hk
  split at hk <;> try exact hk.elim
  rename_i z by_ ea zc hT hzc'
  obtain ⟨h24, hzcl, hfill, hcok, hf, hK⟩ := hk
  obtain ⟨e, inf, hu, hl, hin, hb, hz, zv0, hzv0, hzz0⟩ := tyT_slice hT
  have hze : zeroElemT P t = zeroT P e := by simp [zeroElemT, hu]
  have hzc : zeroT P e = some zc := by rw [← hze]; exact hzc'
  obtain ⟨zv, hzr, hzs, hzrep⟩ := zero_cells hzc w
  have hfl := flat_length hzcl len
  let zs : Array Value := (Array.range (len * z)).map (fun i => zv.cells[i % zv.cells.size]!)
  have hzs1 : zs.size = len * z := by simp [zs]
  unfold bsCells at hcok hK
  obtain ⟨cs', e1, e2, e3⟩ := run_fill (V := cx w lev S) (fun i => some (i * z, z)) (parts.map fun x => (x.1, a.eval x.2)).toList (bsParts env z parts.toList) zs (List.replicate len zc).flatten (by simp [bsParts]) (by rw [hzs1, hfl])
    (by
      intro i v x hv hx
      have hi : i < len * z := by rw [← hzs1]; exact (Array.getElem?_eq_some_iff.1 hv).1
      rw [flat_get hzcl hz len i hi] at hx
      have hlt : i % z < zv.cells.size := by rw [hzs, hzcl]; exact Nat.mod_lt _ (Nat.pos_of_ne_zero hz)
      have hv' : v = zv.cells[i % z] := by
        simp only [zs, Array.getElem?_map] at hv
        rw [Array.getElem?_eq_getElem (by simpa using hi)] at hv
        simp only [Option.map_some, Option.some.injEq, Array.getElem_range] at hv
        rw [← hv, hzs, hzcl]
        simp [hlt]
      refine hzrep (cx w lev S) (i % z) v x ?_ hx
      rw [hv']; simp [hlt])
    (by
      intro k p q hp hq
      simp only [Array.toList_map, List.getElem?_map] at hp
      cases hpk : parts.toList[k]? with
      | none => rw [hpk] at hp; cases hp
      | some p0 =>
        rw [hpk] at hp
        cases hp
        simp only [bsParts, List.getElem?_map, hpk, Option.map_some, Option.some.injEq] at hq
        subst hq
        exact ⟨rfl, h.opd a rfl p0.2⟩) (by rw [hfl]; exact hfill)
  have hlen : (fillD (List.replicate len zc).flatten (bsParts env z parts.toList)).length = len * z := by
    have key : ∀ (qs : List (Nat × Nat × D)) (ds : List D), fillOk ds.length qs → (fillD ds qs).length = ds.length := by
      intro qs
      induction qs with
      | nil => intro ds _; rfl
      | cons q qs ih =>
        intro ds hq
        obtain ⟨off, sz, x⟩ := q
        obtain ⟨g1, g2, g3, g4⟩ := hq
        have hw := wput_length (cs := ds) (xs := x.cells) (o := off) (by omega)
        rw [fillD, ih _ (by rw [hw]; exact g4), hw]
    rw [key _ _ (by rw [hfl]; exact hfill), hfl]
  have hget : ∀ i j r c, (rowsOf z len (fillD (List.replicate len zc).flatten (bsParts env z parts.toList)))[i]? = some r → r[j]? = some c →
      (fillD (List.replicate len zc).flatten (bsParts env z parts.toList))[i * z + j]? = some c ∧ j < z := by
    intro i j r c hi hj
    rw [rowsOf_at _ _ _ _ _ hi] at hj
    have hjz : j < z := by
      have := (List.getElem?_eq_some_iff.1 hj).1
      simp at this; omega
    rw [List.getElem?_take_of_lt hjz, List.getElem?_drop] at hj
    exact ⟨hj, hjz⟩
  have hi := h.newOwn (nm_ge d 0) hf (vs := cs') (z := z) (cap := len) (rows := rowsOf z len (fillD (List.replicate len zc).flatten (bsParts env z parts.toList))) e (by rw [e2, hlen]) (by rw [rowsOf_len]; exact Nat.le_refl _)
    (by
      intro r hr
      obtain ⟨i, hi⟩ := List.mem_iff_getElem?.1 hr
      have hil : i < len := by
        have := (List.getElem?_eq_some_iff.1 hi).1
        rwa [rowsOf_len] at this
      rw [rowsOf_at _ _ _ _ _ hi, List.length_take, List.length_drop, hlen]
      have : (i + 1) * z ≤ len * z := Nat.mul_le_mul_right z hil
      rw [Nat.succ_mul] at this
      omega)
    (by
      intro r hr c hc
      obtain ⟨i, hi⟩ := List.mem_iff_getElem?.1 hr
      rw [rowsOf_at _ _ _ _ _ hi] at hc
      exact hcok c (List.mem_of_mem_drop (List.mem_of_mem_take hc)))
    (by
      intro i j r c hi hj
      obtain ⟨hc, _⟩ := hget i j r c hi hj
      have hlt : i * z + j < cs'.size := by rw [e2]; exact (List.getElem?_eq_some_iff.1 hc).1
      exact ⟨cs'[i * z + j], by simp [hlt], e3 _ _ c (by simp [hlt]) hc⟩)
  refine ⟨_, _, ?_, go_next hn hdf hnext hd (owned hi (setO_same _ _ _) ⟨_, _, _, rfl⟩) hK⟩
  rw [rowsOf_len]
  have hnot : ¬ len * z > 2 ^ 24 := by omega
  have hrow : (newRow e cs').run P w = .ok ⟨w.heap.size, 0, none⟩ (w.alloc (.cells cs' e)) := by simp [newRow, newObj, Sem.run, Sem.bind, pure, bind]
  simp only [Instr.buildSlice, Sem.run_bind, run_und hu, run_lsize hl, Result.andThen_ok, if_neg hnot]
  by_cases h0 : len * z = 0
  · have hzs0 : zs = #[] := Array.eq_empty_of_size_eq_zero (by rw [hzs1, h0])
    have e1' : Instr.fill (fun i => some (i * z, z)) ((Array.range (len * z)).map (fun i => (#[] : Array Value)[i % (#[] : Array Value).size]!)) (parts.map fun x => (x.1, a.eval x.2)).toList = some cs' := by
      rw [← e1, hzs0, h0, show (Array.range 0 : Array Nat) = #[] from rfl]; simp
    simp [h0] at e1' ⊢
    simp [Sem.run_bind, e1', hrow, Sem.run, pure]
  · have e1' : Instr.fill (fun i => some (i * z, z)) ((Array.range (len * z)).map (fun i => zv.cells[i % zv.cells.size]!)) (parts.map fun x => (x.1, a.eval x.2)).toList = some cs' := e1
    rw [if_neg h0]
    simp only [Sem.run_bind, hzr, Result.andThen_ok, pure, Sem.run]
    rw [e1']
    simp [Sem.run_bind, hrow, Sem.run, pure]

theorem mk_sound {a : Act} (h : Inv w0 l0 G S0 w lev own S env (tmOf a.tmps)) (hn : a.tmps.size = n) (hdf : a.defers = []) {t : TypeId} {l c : Operand} {d : Nat} (hd : d < n) {K : Env → Prop} {next : Act → World → Prop}
    (hnext : Cont n w0 l0 G S0 K next) (hk : MkK env d K (rd env l) (rd env c) (tyT P t) (zeroElemT P t)) :
    ∃ u w', (Instr.makeSlice t (a.eval l) (a.eval c)).run P w = .ok u w' ∧ next { a with tmps := a.tmps.setIfInBounds d u } w' := by
  have hol := h.opd a rfl l
  have hoc := h.opd a rfl c
  unfold MkK at hk
  split at hk <;> try exact hk.elim
  rename_i z by_ ea k1 len k2 cp zc hT hlv hcv hzc'
  rw [hlv] at hol
  rw [hcv] at hoc
  obtain ⟨h0, hlc, h40, h47, hzcl, hzok, hf, hK⟩ := hk
  obtain ⟨e, inf, hu, hl, hin, hb, hz, zv0, hzv0, hzz0⟩ := tyT_slice hT
  have hze : zeroElemT P t = zeroT P e := by simp [zeroElemT, hu]
  have hzc : zeroT P e = some zc := by rw [← hze]; exact hzc'
  obtain ⟨zv, hzr, hzs, hzrep⟩ := zero_cells hzc w
  have hlv' := hol.int_inv
  have hcv' := hoc.int_inv
  obtain ⟨len, rfl⟩ := Int.eq_ofNat_of_zero_le h0
  obtain ⟨cp, rfl⟩ := Int.eq_ofNat_of_zero_le (show 0 ≤ cp by omega)
  have hlc' : len ≤ cp := by omega
  simp only [Int.toNat_natCast] at hK
  let cells : Array Value := (Array.range (cp * z)).map (fun i => zv.cells[i % zv.cells.size]!)
  have hcs : cells.size = cp * z := by simp [cells]
  have hi := h.newOwn (nm_ge d 0) hf (vs := cells) (z := z) (cap := cp) (rows := List.replicate len zc) e hcs (by simpa using hlc') (by intro r hr; rw [(List.mem_replicate.1 hr).2]; exact hzcl)
    (by intro r hr; rw [(List.mem_replicate.1 hr).2]; exact hzok) (by
      intro i j r x hi hj
      have hil : i < len := by
        have := (List.getElem?_eq_some_iff.1 hi).1
        simpa using this
      have hr : r = zc := (List.mem_replicate.1 (List.mem_of_getElem? hi)).2
      subst hr
      have hjl : j < z := by rw [← hzcl]; exact (List.getElem?_eq_some_iff.1 hj).1
      have hlt : i * z + j < len * z := idx_lt hjl hil
      have hlt2 : i * z + j < cp * z := Nat.lt_of_lt_of_le hlt (Nat.mul_le_mul_right z hlc')
      have hmod : (i * z + j) % z = j := by rw [Nat.add_comm, Nat.add_mul_mod_self_right, Nat.mod_eq_of_lt hjl]
      have hj2 : j < zv.cells.size := by rw [hzs, hzcl]; exact hjl
      refine ⟨zv.cells[j], ?_, hzrep _ j _ x (by simp [hj2]) hj⟩
      simp only [cells, Array.getElem?_map]
      rw [Array.getElem?_eq_getElem (by simpa using hlt2)]
      have hmod' : (i * z + j) % zv.cells.size = j := by rw [hzs, hzcl]; exact hmod
      simp only [Option.map_some, Array.getElem_range, hmod']
      rw [getElem!_pos zv.cells j hj2])
  refine ⟨_, _, ?_, go_next hn hdf hnext hd (owned hi (setO_same _ _ _) ⟨_, _, _, rfl⟩) hK⟩
  rw [List.length_replicate]
  have hrow : (newRow e cells).run P w = .ok ⟨w.heap.size, 0, none⟩ (w.alloc (.cells cells e)) := by simp [newRow, newObj, Sem.run, Sem.bind, pure, bind]
  have hw1 : IntKind.i64.wrap (len : Int) = len := wrap64_id (by omega) (by omega)
  have hw2 : IntKind.i64.wrap (cp : Int) = cp := wrap64_id (by omega) (by omega)
  have hask : ∀ m, (askRoom m).run P w = .ok () w := by
    intro m
    unfold askRoom
    split <;> simp [mark, Sem.run, pure]
  have hbig : (inf.bytes : Int) * (cp : Int) ≤ 281474976710656 := by
    rw [hb]
    have : (by_ : Int) * (cp : Int) ≤ 2 ^ 47 := h47
    omega
  have hneg : ¬ ((cp : Int) < 0) := by omega
  have hlneg : ¬ ((len : Int) < 0) := by omega
  have hlcn : ¬ ((len : Int) > (cp : Int)) := by omega
  rw [hlv', hcv']
  simp only [Instr.makeSlice, Sem.run_bind, run_und hu, asInt, asIntOf, pure, Sem.run, Result.andThen_ok, run_info hin, hw1, hw2]
  rw [if_neg (by simp [hneg, hbig, hlneg, hlcn])]
  simp only [Sem.run_bind, hask, Result.andThen_ok, run_lsize hl, Int.toNat_natCast]
  by_cases hz0 : cp * z = 0
  · have : cells = #[] := Array.eq_empty_of_size_eq_zero (by rw [hcs, hz0])
    simp only [hz0, if_true, Sem.run, Result.andThen_ok, Sem.run_bind]
    have hrow2 : (newRow e #[]).run P w = .ok ⟨w.heap.size, 0, none⟩ (w.alloc (.cells cells e)) := by rw [← this]; exact hrow
    rw [show (Array.range 0 : Array Nat) = #[] from rfl]
    simp [hrow2]
  · simp only [if_neg hz0, Sem.run_bind, hzr, Result.andThen_ok, Sem.run]
    rw [hrow]
    simp [Sem.run]

theorem opK0_sound {dr : Bool} {o : Oper} {a : Act} (h : Inv w0 l0 G S0 w lev own S env (tmOf a.tmps)) (hn : a.tmps.size = n) (hdf : a.defers = []) {K : Env → Prop} {next : Act → World → Prop} {Q : Exit → Act → World → Prop}
    (hnext : Cont n w0 l0 G S0 K next) (hk : opK0 P n dr o env true K) : o.wp P a w next Q := by
  have pureCase : ∀ d, o.dst = some d → d < n → StepK true (pureOk P env o.op) (pureV P env o.op) (fun u => K (updT env d u)) → o.wp P a w next Q := by
    intro d hd hdn ⟨hok, hK⟩
    obtain ⟨u, hr, hu⟩ := pure_run h o (hok rfl)
    exact upon_value hd hr (go_next hn hdf hnext hdn (h.put hu) hK)
  cases hd : o.dst with
  | none =>
    cases hop : o.op <;> simp only [opK0, hop, hd] at hk <;> try exact hk.elim
    obtain ⟨_, hk⟩ := hk
    obtain ⟨w', hr, hnx⟩ := st_sound h hn hdf hnext hk
    unfold Oper.wp
    have : (execOp a.eval o).run P w = .ok .skip w' := by
      simp only [execOp, hop, Sem.run_bind, hr]; rfl
    rw [this]
    simp only [Oper.upon, hd, Act.put]
    exact hnx
  | some d =>
    cases hop : o.op <;> simp only [opK0, hop, hd] at hk
    case box T x =>
      obtain ⟨_, hdn, hk⟩ := hk
      have := box_sound (T := T) h hn hdf hdn hnext hk
      refine upon_value hd (u := .pointer (some ⟨w.heap.size, 0, none⟩)) ?_ this
      simp only [execOp, hop]
      exact run_v (by simp [Instr.box, newVar, newRow, newObj, Sem.run, Sem.bind, pure, bind])
    case alloc T =>
      obtain ⟨_, hdn, hk⟩ := hk
      cases hz : zeroT P T with
      | none => rw [hz] at hk; exact hk.elim
      | some zc =>
        rw [hz] at hk
        obtain ⟨hf, hK⟩ := hk
        obtain ⟨zv, hzr, hzs, hzrep⟩ := zero_cells hz w
        obtain ⟨_, _, _, hi⟩ := boxed (d := d) h T hzs (fun j u e hu he => hzrep _ j u e hu he) hf
        refine upon_value hd (u := .pointer (some ⟨w.heap.size, 0, none⟩)) ?_ (go_next hn hdf hnext hdn hi hK)
        simp only [execOp, hop]
        refine run_v ?_
        simp only [Instr.alloc, Sem.run_bind, hzr, Result.andThen_ok]
        simp [newVar, newRow, newObj, Sem.run, Sem.bind, pure, bind]
    case buildSlice t len parts =>
      obtain ⟨hdn, hk⟩ := hk
      obtain ⟨lev1, S1, h1⟩ := Inv.frzL (bsNames env parts.toList) h (fun _ _ => trivial)
      obtain ⟨u, w', hr, hnx⟩ := bs_sound h1 hn hdf hdn hnext (hk.1 rfl).2
      exact upon_value hd (by simp only [execOp, hop]; exact run_v hr) hnx
    case makeSlice t l c =>
      obtain ⟨hdn, hk⟩ := hk
      obtain ⟨u, w', hr, hnx⟩ := mk_sound h hn hdf hdn hnext (hk.1 rfl)
      exact upon_value hd (by simp only [execOp, hop]; exact run_v hr) hnx
    case call c =>
      obtain ⟨hdn, hk⟩ := hk
      split at hk
      · -- append
        rename_i hcal
        obtain ⟨_, _, hk⟩ := hk
        split at hk
        · rename_i x y T T2 hargs htys
          have e1 : c.args = #[x, y] := Array.ext' (by simpa using hargs)
          have e2 : c.argTypes = #[T, T2] := Array.ext' (by simpa using htys)
          have hk : SemK P n o env K ∨ AppK env d K (rd env x) (rd env y) (tyT P T) (tyT P T2) := by
            unfold AppX at hk
            split at hk
            · exact .inl hk
            · exact .inl hk
            · exact .inr hk
          rcases hk with hk | hk
          · exact hk _ _ _ _ _ _ _ _ _ _ _ h hn hdf hnext
          obtain ⟨u, w', hr, hnx⟩ := app_sound (T3 := o.type) h hn hdf hdn hnext hk
          refine upon_value hd ?_ hnx
          have hm : c.args.map a.eval = #[a.eval x, a.eval y] := by rw [e1]; simp
          simp only [execOp, hop, resolve, hcal, Sem.run_bind, pure, Sem.run, Result.andThen_ok, invoke, builtin, hm, e2, hr]
        · exact hk.elim
      · exact pureCase d hd hdn (by rw [hop]; exact hk)
      · rename_i f hcal
        rcases hk.1 rfl with hk | ⟨_, hk⟩
        · exact call_sound h hn hdf hcal hdn hop hd hnext hk
        · exact hk _ _ _ _ _ _ _ _ _ _ _ h hn hdf hnext
      · exact hk.elim
    all_goals exact pureCase d hd hk.1 (by rw [hop]; exact hk.2)

theorem opK0_skip {dr : Bool} {o : Oper} {a : Act} (h : Inv w0 l0 G S0 w lev own S env (tmOf a.tmps)) (hn : a.tmps.size = n) (hdf : a.defers = []) {K : Env → Prop} {next : Act → World → Prop}
    (hnext : Cont n w0 l0 G S0 K next) (hk : opK0 P n dr o env false K) : next (a.put o.dst Go.undef) w := by
  have go : ∀ d, o.dst = some d → d < n → K (updT env d (.tup [])) → next (a.put o.dst Go.undef) w := by
    intro d hd hdn hK
    rw [hd]
    exact go_next hn hdf hnext hdn (h.put (v := Go.undef) (d := .tup []) (.tup #[] [] rfl (by intro i v d hv; simp at hv))) hK
  cases hd : o.dst with
  | none =>
    cases hop : o.op <;> simp only [opK0, hop, hd] at hk <;> first | exact hk.elim | exact (Bool.false_ne_true hk.1).elim
  | some d =>
    rw [← hd]
    cases hop : o.op <;> simp only [opK0, hop, hd] at hk <;> try (first | exact (Bool.false_ne_true hk.1).elim | exact go d hd hk.1 hk.2.2 | exact go d hd hk.1 (hk.2.2 rfl))
    case call c =>
      obtain ⟨hdn, hk⟩ := hk
      split at hk
      · exact (Bool.false_ne_true hk.1).elim
      · exact go d hd hdn hk.2
      · exact go d hd hdn (hk.2 rfl)
      · exact hk.elim
theorem opK_sound {dr : Bool} {o : Oper} {a : Act} (h : Inv w0 l0 G S0 w lev own S env (tmOf a.tmps)) (hn : a.tmps.size = n) (hdf : a.defers = []) {K : Env → Prop} {next : Act → World → Prop} {Q : Exit → Act → World → Prop}
    (hnext : Cont n w0 l0 G S0 K next) (hk : opK P n dr o env true K) : o.wp P a w next Q := by
  unfold opK at hk
  split at hk
  · exact hk.2.2 _ _ _ _ _ _ _ _ _ _ _ h hn hdf hnext
  · exact opK0_sound h hn hdf hnext hk
theorem opK_skip {dr : Bool} {o : Oper} {a : Act} (h : Inv w0 l0 G S0 w lev own S env (tmOf a.tmps)) (hn : a.tmps.size = n) (hdf : a.defers = []) {K : Env → Prop} {next : Act → World → Prop}
    (hnext : Cont n w0 l0 G S0 K next) (hk : opK P n dr o env false K) : next (a.put o.dst Go.undef) w := by
  unfold opK at hk
  split at hk
  · exact (Bool.false_ne_true hk.1).elim
  · exact opK0_skip h hn hdf hnext hk
end
end Go.Abs
