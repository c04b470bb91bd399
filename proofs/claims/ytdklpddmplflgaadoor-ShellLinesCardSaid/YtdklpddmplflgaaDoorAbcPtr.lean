/- Slices of pointers: boxes of addresses; no theorem of a claim. -/
import Derived.Test.YtdklpddmplflgaaDoorAbcHard3
set_option linter.unusedSimpArgs false
set_option linter.unusedVariables false
namespace Go.Abs
open Go.RowKit
section
variable {P : Program} {n : Nat} {e : Env} {K : Env → Prop} {T T2 ty : TypeId} {d : Nat} {pos : String} {after : Array Edge} {gu : Option (Nat × Bool)}
variable {w0 w w' : World} {l0 : Nat → Option Nat} {G : Nat → Option (Nat × Nat)} {S0 : Nat → Option Value} {lev own : Nat → Option Nat} {S : Nat → Option Value} {tm : Nat → Value}
/-- what a slice of a box holds -/
def bsD (cs : List D) (off l : Nat) : List D := (cs.drop off).take l
theorem bsD_len {cs : List D} {off l : Nat} (h : off + l ≤ cs.length) : (bsD cs off l).length = l := by simp [bsD]; omega
theorem bsD_get {cs : List D} {off l j : Nat} {x : D} (h : (bsD cs off l)[j]? = some x) : j < l ∧ cs[off + j]? = some x := by
  have hj : j < l := by
    have := (List.getElem?_eq_some_iff.1 h).1
    simp [bsD] at this; omega
  refine ⟨hj, ?_⟩
  rw [bsD, List.getElem?_take_of_lt hj, List.getElem?_drop] at h
  exact h
def ones (cs : List D) : List (List D) := cs.map fun d => [d]
theorem ones_len (cs : List D) : (ones cs).length = cs.length := by simp [ones]
theorem ones_flat (cs : List D) : (ones cs).flatten = cs := by
  induction cs with
  | nil => rfl
  | cons c r ih => simp only [ones, List.map_cons, List.flatten_cons] at ih ⊢; rw [ih]; rfl
theorem ones_get {cs : List D} {i j : Nat} {row : List D} {x : D} (h1 : (ones cs)[i]? = some row) (h2 : row[j]? = some x) : j = 0 ∧ cs[i]? = some x := by
  simp only [ones, List.getElem?_map] at h1
  cases hc : cs[i]? with
  | none => rw [hc] at h1; cases h1
  | some c =>
    rw [hc] at h1
    obtain rfl := Option.some.inj h1
    cases j with
    | zero => exact ⟨rfl, by simpa using h2⟩
    | succ j => simp at h2
theorem slIsC_box (h : Inv w0 l0 G S0 w lev own S e tm) {v : Value} {r off l c : Nat} {cs : List D} (hr : RepV (cx w lev S) v (.bsub r off 1 l c)) (he : e.o r = .box cs) (hin : off + l ≤ cs.length) (hok : ∀ x ∈ bsD cs off l, cellOk x) : SlIsC w (cx w lev S) v 1 (ones (bsD cs off l)) := by
  obtain ⟨a, a', cap', hS, rfl, q1, q2, q3, rfl, q4⟩ := hr.bsub_inv
  have hb := h.box_cells he hS
  have hl : (ones (bsD cs off l)).length = l := by rw [ones_len, bsD_len hin]
  refine ⟨a', cap', by rw [hl], by rw [hl]; exact q2, ?_, ?_, ?_, ?_⟩
  · intro row hrow
    obtain ⟨x, _, rfl⟩ := List.mem_map.1 hrow
    rfl
  · intro row hrow x hx
    obtain ⟨y, hy, rfl⟩ := List.mem_map.1 hrow
    rw [List.mem_singleton.1 hx]
    exact hok y hy
  · intro hn
    have := q3 hn
    have : l = 0 := by omega
    subst this
    simp [ones, bsD]
  · intro ad had i j row x hi hj
    obtain ⟨rfl, hx⟩ := ones_get hi hj
    obtain ⟨hil, hx⟩ := bsD_get hx
    have := q1 (by omega)
    rw [had] at this
    obtain rfl := Option.some.inj this
    obtain ⟨u, hu, hru⟩ := hb _ _ hx
    refine ⟨u, ?_, hru⟩
    rw [add_add, show off + (i * 1 + 0) = off + i by omega]
    exact hu
/-- a slice of so many addresses, made whole -/
theorem SemK.buildPtr {t : TypeId} {len by_ : Nat} {ea : Bool} {parts : Array (Nat × Operand)} {zc cs : List D} (hT : tyT P t = .slice 1 by_ ea) (hzc' : zeroElemT P t = some zc) (hzcl : zc.length = 1) (hcs : bsCells zc e 1 len parts.toList = cs) (h24 : len ≤ 2 ^ 24) (hfill : fillOk (len * 1) (bsParts e 1 parts.toList)) (hd : d < n) (hf : e.o (nm d 0) = .undef)
    (hK : K (updT (updO e (nm d 0) (.box cs)) d (.bsub (nm d 0) 0 1 len len))) : SemK P n ⟨some d, .buildSlice t len parts, ty, pos, after, gu⟩ e K := by
  intro w0 l0 G S0 w lev own S a next Q h hn hdf hnext
  obtain ⟨el, inf, hu, hl, hin, hb, hz, zv0, hzv0, hzz0⟩ := tyT_slice hT
  have hze : zeroElemT P t = zeroT P el := by simp [zeroElemT, hu]
  have hzc : zeroT P el = some zc := by rw [← hze]; exact hzc'
  obtain ⟨zv, hzr, hzs, hzrep⟩ := zero_cells hzc w
  have hfl := flat_length hzcl len
  let zs : Array Value := (Array.range (len * 1)).map (fun i => zv.cells[i % zv.cells.size]!)
  have hzs1 : zs.size = len * 1 := by simp [zs]
  unfold bsCells at hcs
  obtain ⟨cs', e1, e2, e3⟩ := run_fill (V := cx w lev S) (fun i => some (i * 1, 1)) (parts.map fun x => (x.1, a.eval x.2)).toList (bsParts e 1 parts.toList) zs (List.replicate len zc).flatten (by simp [bsParts]) (by rw [hzs1, hfl])
    (by
      intro i v x hv hx
      have hi : i < len * 1 := by rw [← hzs1]; exact (Array.getElem?_eq_some_iff.1 hv).1
      rw [flat_get hzcl hz len i hi] at hx
      have hlt : i % 1 < zv.cells.size := by rw [hzs, hzcl]; exact Nat.mod_lt _ (by omega)
      have hv' : v = zv.cells[i % 1] := by
        simp only [zs, Array.getElem?_map] at hv
        rw [Array.getElem?_eq_getElem (by simpa using hi)] at hv
        simp only [Option.map_some, Option.some.injEq, Array.getElem_range] at hv
        rw [← hv, hzs, hzcl]
        simp [hlt]
      refine hzrep (cx w lev S) (i % 1) v x ?_ hx
      rw [hv']; simp [hlt])
    (by
      intro k p q hp hq
      simp only [Array.toList_map, List.getElem?_map] at hp
      cases hpk : parts.toList[k]? with
      | none => rw [hpk] at hp; cases hp
      | some p0 =>
        rw [hpk] at hp
        cases hp
        simp only [bsParts, List.getElem?_map, hpk, Option.map_some, Option.some.injEq] at hq
        subst hq
        exact ⟨rfl, h.opd a rfl p0.2⟩) (by rw [hfl]; exact hfill)
  rw [hcs] at e2 e3
  have hlen : cs.length = len * 1 := by
    have key : ∀ (qs : List (Nat × Nat × D)) (ds : List D), fillOk ds.length qs → (fillD ds qs).length = ds.length := by
      intro qs
      induction qs with
      | nil => intro ds _; rfl
      | cons q qs ih =>
        intro ds hq
        obtain ⟨off, sz, x⟩ := q
        obtain ⟨g1, g2, g3, g4⟩ := hq
        have hw := wput_length (cs := ds) (xs := x.cells) (o := off) (by omega)
        rw [fillD, ih _ (by rw [hw]; exact g4), hw]
    rw [← hcs, key _ _ (by rw [hfl]; exact hfill), hfl]
  have hi := h.newBox (nm_ge d 0) hf (vs := cs') (cs := cs) el e2 (fun j u x hu hx => e3 j u x hu hx)
  have hput := hi.put (s := d) (v := .slice (some ⟨w.heap.size, 0, none⟩) len len) (d := .bsub (nm d 0) 0 1 len len) (.bsub (nm d 0) 0 1 len len ⟨w.heap.size, 0, none⟩ _ (setO_same _ _ _) (fun _ => by simp [Addr.add]) (Nat.le_refl _))
  refine upon_value rfl (u := .slice (some ⟨w.heap.size, 0, none⟩) len len) ?_ (go_next hn hdf hnext hd hput hK)
  have hnot : ¬ len * 1 > 2 ^ 24 := by omega
  have hrow : (newRow el cs').run P w = .ok ⟨w.heap.size, 0, none⟩ (w.alloc (.cells cs' el)) := by simp [newRow, newObj, Sem.run, Sem.bind, pure, bind]
  show (execOp a.eval _).run P w = _
  simp only [execOp]
  refine run_v ?_
  simp only [Instr.buildSlice, Sem.run_bind, run_und hu, run_lsize hl, Result.andThen_ok, if_neg hnot]
  by_cases h0 : len * 1 = 0
  · have hzs0 : zs = #[] := Array.eq_empty_of_size_eq_zero (by rw [hzs1, h0])
    have e1' : Instr.fill (fun i => some (i * 1, 1)) ((Array.range (len * 1)).map (fun i => (#[] : Array Value)[i % (#[] : Array Value).size]!)) (parts.map fun x => (x.1, a.eval x.2)).toList = some cs' := by
      rw [← e1, hzs0, h0, show (Array.range 0 : Array Nat) = #[] from rfl]; simp
    simp [h0] at e1' ⊢
    simp [Sem.run_bind, e1', hrow, Sem.run, pure]
  · have e1' : Instr.fill (fun i => some (i * 1, 1)) ((Array.range (len * 1)).map (fun i => zv.cells[i % zv.cells.size]!)) (parts.map fun x => (x.1, a.eval x.2)).toList = some cs' := e1
    rw [if_neg h0]
    simp only [Sem.run_bind, hzr, Result.andThen_ok, pure, Sem.run]
    rw [e1']
    simp [Sem.run_bind, hrow, Sem.run, pure]
theorem SemK.appPtr0 {x y : Operand} {by_ b2 : Nat} {ea a2 : Bool} {r off l c r2 off2 l2 c2 : Nat} {cs cs2 : List D} (hT : tyT P T = .slice 1 by_ ea) (hT2 : tyT P T2 = .slice 1 b2 a2) (hx : rd e x = .bsub r off 1 l c) (he : e.o r = .box cs) (hy : ∀ (w0 : World) (l0 : Nat → Option Nat) (G : Nat → Option (Nat × Nat)) (S0 : Nat → Option Value) (w : World) (lev own : Nat → Option Nat) (S : Nat → Option Value) (tm : Nat → Value), Inv w0 l0 G S0 w lev own S e tm → ∀ v, RepV (cx w lev S) v (rd e y) → RepV (cx w lev S) v (.bsub r2 off2 1 l2 c2)) (he2 : e.o r2 = .box cs2)
    (hin : off + l ≤ cs.length) (hin2 : off2 + l2 ≤ cs2.length) (hok : ∀ x ∈ bsD cs off l, cellOk x) (hok2 : ∀ x ∈ bsD cs2 off2 l2, cellOk x) (hd : d < n) (hby : by_ ≤ 2 ^ 32) (hbig : (by_ + 1) * (l + l2) ≤ 2 ^ 45)
    (h1 : l + l2 ≤ c → off + (l + l2) ≤ cs.length ∧ K (updT (updO e r (.box (wput cs (off + l) (bsD cs2 off2 l2)))) d (.bsub r off 1 (l + l2) c)))
    (h2 : c < l + l2 → e.o (nm d 0) = .undef ∧ ∀ N, l + l2 ≤ N → K (updT (updO e (nm d 0) (.box (bsD cs off l ++ bsD cs2 off2 l2 ++ List.replicate (N - (l + l2)) .undef))) d (.bsub (nm d 0) 0 1 (l + l2) N))) :
    SemK P n ⟨some d, .call ⟨.builtin .append, #[x, y], #[T, T2]⟩, ty, pos, after, gu⟩ e K := by
  intro w0 l0 G S0 w lev own S a next Q h hn hdf hnext
  have hox := h.opd a rfl x
  have hoy := hy _ _ _ _ _ _ _ _ _ h _ (h.opd a rfl y)
  rw [hx] at hox
  have hu2 : ∃ e, P.underlying T2 = some (.slice e) := by
    obtain ⟨e, _, hu, _⟩ := tyT_slice hT2
    exact ⟨e, hu⟩
  have hsx := slIsC_box h hox he hin hok
  have hsy := slIsC_box h hoy he2 hin2 hok2
  have hlx : (ones (bsD cs off l)).length = l := by rw [ones_len, bsD_len hin]
  have hly : (ones (bsD cs2 off2 l2)).length = l2 := by rw [ones_len, bsD_len hin2]
  have hm : (#[x, y].map a.eval : Array Value) = #[a.eval x, a.eval y] := by simp
  have go : ∀ u w', (Builtin.append_ #[T, T2] ty #[a.eval x, a.eval y]).run P w = .ok u w' → (execOp a.eval ⟨some d, .call ⟨.builtin .append, #[x, y], #[T, T2]⟩, ty, pos, after, gu⟩).run P w = .ok (.value u) w' := by
    intro u w' hr
    simp only [execOp, resolve, Sem.run_bind, pure, Sem.run, Result.andThen_ok, invoke, builtin, hm, hr]
  have hox' := hox
  obtain ⟨ad, a', cap', hS, hv, g3, g4, g5, rfl, g6⟩ := hox.bsub_inv
  by_cases hfit : l + l2 ≤ cap'
  · obtain ⟨ho, hK⟩ := h1 hfit
    obtain ⟨news, hnl, hng, hn1, hrun⟩ := app_fit (P := P) (w := w) (V := cx w lev S) hT hu2 (a := a') (len := l) (cap := cap') hsy (by rw [hly]; exact hfit) ty
    rw [hly] at hnl hrun
    have hds : (bsD cs2 off2 l2).length = l2 := bsD_len hin2
    by_cases hc0 : cap' = 0
    · have hl0 : l = 0 := by omega
      have hl20 : l2 = 0 := by omega
      have hn0 : news = [] := List.length_eq_zero_iff.1 (by omega)
      subst hn0
      have hb0 : bsD cs2 off2 l2 = [] := List.length_eq_zero_iff.1 (by omega)
      have hw : wput cs (off + l) [] = cs := by simp [wput]
      have he' : updO e r (.box cs) = e := by
        simp only [updO]
        cases e with
        | mk t o =>
          simp only [Env.mk.injEq, true_and]
          funext j
          by_cases hj : j = r
          · subst hj; simp only [if_true]; exact he.symm
          · simp [hj]
      rw [hb0, hw, he'] at hK
      have hr := hrun w (by cases a' <;> simp [storeCells, Sem.run, pure])
      rw [← hv] at hr
      refine upon_value rfl (go _ _ hr) (go_next hn hdf hnext hd (h.put ?_) hK)
      rw [show l + l2 = l by omega]
      rw [← hv]
      exact hox'
    · have ha' := g6 hc0
      subst ha'
      obtain ⟨w', hr, hi⟩ := h.writeBox (P := P) he (news := news) (ds := bsD cs2 off2 l2) (off := off + l) (by omega) hn1 (by
        intro j v x hv hx
        obtain ⟨hj, _⟩ := bsD_get hx
        obtain ⟨u, hu, hru⟩ := hng j 0 [x] x (by simp only [ones, List.getElem?_map, hx, Option.map_some]) rfl
        rw [show j * 1 + 0 = j by omega, hv] at hu
        obtain rfl := Option.some.inj hu
        exact hru) (by omega) hS
      have hr2 := hrun w' (by show (storeCells ((ad.add off).add (l * 1)) news).run P w = _; rw [add_add, Nat.mul_one]; exact hr)
      rw [← hv] at hr2
      refine upon_value rfl (go _ _ hr2) (go_next hn hdf hnext hd (hi.put (.bsub r off 1 _ _ ad _ hS (fun _ => rfl) hfit)) hK)
  · obtain ⟨hfr, hK⟩ := h2 (by omega)
    rw [hv] at hsx
    have hsx' : SlIsC w (cx w lev S) (.slice a' (ones (bsD cs off l)).length cap') 1 (ones (bsD cs off l)) := by rw [hlx]; exact hsx
    obtain ⟨M, e', cells, k1, k2, k3, k4⟩ := app_grow (P := P) (w := w) (V := cx w lev S) hT hu2 hsx' hsy (by rw [hlx, hly]; exact hfit) (by rw [hlx, hly]; exact hbig) hby ty
    rw [hlx, hly] at k1 k3
    have hi := h.drew.newBox (nm_ge d 0) hfr (vs := cells) (cs := bsD cs off l ++ bsD cs2 off2 l2 ++ List.replicate (M - (l + l2)) .undef) e' (by simp only [List.length_append, bsD_len hin, bsD_len hin2, List.length_replicate]; omega) (by
      intro j u x hu hx
      by_cases hj : j < l + l2
      · have hx2 : (bsD cs off l ++ bsD cs2 off2 l2)[j]? = some x := by
          rw [List.getElem?_append_left (by simp only [List.length_append, bsD_len hin, bsD_len hin2]; exact hj)] at hx
          exact hx
        obtain ⟨u2, hu2, hru⟩ := k4 j 0 [x] x (by rw [show ones (bsD cs off l) ++ ones (bsD cs2 off2 l2) = ones (bsD cs off l ++ bsD cs2 off2 l2) by simp [ones]]; simp only [ones, List.getElem?_map, hx2, Option.map_some]) rfl
        rw [show j * 1 + 0 = j by omega, hu] at hu2
        obtain rfl := Option.some.inj hu2
        exact RepV.vkeep (w := w) (w' := w.drew) (lev' := lev) hru (fun _ _ h => h) (fun _ _ _ h => h)
      · have : x = .undef := by
          rw [List.getElem?_append_right (by simp only [List.length_append, bsD_len hin, bsD_len hin2]; omega)] at hx
          exact (List.mem_replicate.1 (List.mem_of_getElem? hx)).2
        rw [this]; exact .undef _)
    rw [← hv] at k3
    refine upon_value rfl (go _ _ k3) (go_next hn hdf hnext hd (hi.put (.bsub (nm d 0) 0 1 _ _ ⟨w.heap.size, 0, none⟩ _ (setO_same _ _ _) (fun _ => by simp [Addr.add]) k1)) (hK M k1))
/-- addresses behind addresses -/
theorem SemK.appPtr {x y : Operand} {by_ b2 : Nat} {ea a2 : Bool} {r off l c r2 off2 l2 c2 : Nat} {cs cs2 : List D} (hT : tyT P T = .slice 1 by_ ea) (hT2 : tyT P T2 = .slice 1 b2 a2) (hx : rd e x = .bsub r off 1 l c) (he : e.o r = .box cs) (hy : rd e y = .bsub r2 off2 1 l2 c2) (he2 : e.o r2 = .box cs2)
    (hin : off + l ≤ cs.length) (hin2 : off2 + l2 ≤ cs2.length) (hok : ∀ x ∈ bsD cs off l, cellOk x) (hok2 : ∀ x ∈ bsD cs2 off2 l2, cellOk x) (hd : d < n) (hby : by_ ≤ 2 ^ 32) (hbig : (by_ + 1) * (l + l2) ≤ 2 ^ 45)
    (h1 : l + l2 ≤ c → off + (l + l2) ≤ cs.length ∧ K (updT (updO e r (.box (wput cs (off + l) (bsD cs2 off2 l2)))) d (.bsub r off 1 (l + l2) c)))
    (h2 : c < l + l2 → e.o (nm d 0) = .undef ∧ ∀ N, l + l2 ≤ N → K (updT (updO e (nm d 0) (.box (bsD cs off l ++ bsD cs2 off2 l2 ++ List.replicate (N - (l + l2)) .undef))) d (.bsub (nm d 0) 0 1 (l + l2) N))) :
    SemK P n ⟨some d, .call ⟨.builtin .append, #[x, y], #[T, T2]⟩, ty, pos, after, gu⟩ e K := by
  exact SemK.appPtr0 hT hT2 hx he (fun _ _ _ _ _ _ _ _ _ _ _ hv => by rw [hy] at hv; exact hv) he2 hin hin2 hok hok2 hd hby hbig h1 h2
/-- nothing behind addresses -/
theorem SemK.appPtrNil {x y : Operand} {by_ b2 : Nat} {ea a2 : Bool} {r off l c : Nat} {cs : List D} (hT : tyT P T = .slice 1 by_ ea) (hT2 : tyT P T2 = .slice 1 b2 a2) (hx : rd e x = .bsub r off 1 l c) (he : e.o r = .box cs) (hy : rd e y = .nil)
    (hin : off + l ≤ cs.length) (hok : ∀ x ∈ bsD cs off l, cellOk x) (hd : d < n) (hby : by_ ≤ 2 ^ 32) (hbig : (by_ + 1) * l ≤ 2 ^ 45) (hl : l ≤ c) (hK : K (updT (updO e r (.box cs)) d (.bsub r off 1 l c))) :
    SemK P n ⟨some d, .call ⟨.builtin .append, #[x, y], #[T, T2]⟩, ty, pos, after, gu⟩ e K := by
  refine SemK.appPtr0 (r2 := r) (off2 := 0) (l2 := 0) (c2 := 0) (cs2 := cs) hT hT2 hx he ?_ he hin (by omega) hok (by simp [bsD]) hd hby (by simpa using hbig) ?_ ?_
  · intro w0 l0 G S0 w lev own S tm h v hv
    rw [hy] at hv
    have ho := h.objs r
    rw [he] at ho
    obtain ⟨b, o, cc, E, hS, _⟩ := ho
    cases hv
    exact .bsub r 0 1 0 0 ⟨b, o, none⟩ none hS (fun h => absurd rfl h) (Nat.le_refl _)
  · intro _
    refine ⟨by omega, ?_⟩
    have : wput cs (off + l) (bsD cs 0 0) = cs := by simp [wput, bsD]
    rw [this]
    exact hK
  · intro h; omega
/-- so many addresses, and room behind them -/
def bufP (as : List D) (N : Nat) : List D := as ++ List.replicate (N - as.length) .undef
theorem bufP_len {as : List D} {N : Nat} (h : as.length ≤ N) : (bufP as N).length = N := by simp [bufP]; omega
theorem bufP_sub (as : List D) (N : Nat) : bsD (bufP as N) 0 as.length = as := by simp [bsD, bufP]
theorem bufP_all (as : List D) : bufP as as.length = as := by simp [bufP]
theorem bufP_put {as : List D} {N : Nat} (bs : List D) (h : as.length + bs.length ≤ N) : wput (bufP as N) (0 + as.length) bs = bufP (as ++ bs) N := by
  simp only [wput, bufP, Nat.zero_add, List.take_left, List.append_assoc, List.length_append]
  rw [List.drop_append, List.drop_of_length_le (by omega), List.nil_append, List.drop_replicate]
  congr 3
  omega
theorem bufP_new (as bs : List D) (N : Nat) : as ++ bs ++ List.replicate (N - (as.length + bs.length)) .undef = bufP (as ++ bs) N := by simp [bufP]
end
end Go.Abs
