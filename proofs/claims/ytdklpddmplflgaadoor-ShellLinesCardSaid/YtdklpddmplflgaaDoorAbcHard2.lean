/- clear, a slice with three bounds, and what is known of two slices that are not one; no theorem of a claim. -/
import Derived.Test.YtdklpddmplflgaaDoorAbcHard
import Derived.Laws.Externs
set_option linter.unusedSimpArgs false
set_option linter.unusedVariables false
namespace Go.Abs
section
variable {P : Program} {n : Nat} {w0 w w' : World} {l0 : Nat → Option Nat} {G : Nat → Option (Nat × Nat)} {S0 : Nat → Option Value} {lev lev' own own' : Nat → Option Nat} {S S' : Nat → Option Value} {env env' : Env} {tm tm' : Nat → Value}
variable {e : Env} {K : Env → Prop} {d : Nat} {ty T T2 : TypeId} {pos : String} {after : Array Edge} {gu : Option (Nat × Bool)}
theorem updO_id {e : Env} {r : Nat} {x : D} (he : e.o r = x) : updO e r x = e := by
  simp only [updO]
  cases e with
  | mk t o =>
    simp only [Env.mk.injEq, true_and]
    funext j
    by_cases hj : j = r
    · subst hj; simp only [if_true]; exact he.symm
    · simp [hj]
theorem upon_none {o : Oper} {a : Act} {next : Act → World → Prop} {Q : Exit → Act → World → Prop} {u : Value} (hd : o.dst = none) (hr : (execOp a.eval o).run P w = .ok (.value u) w')
    (h : next a w') : o.wp P a w next Q := by
  unfold Oper.wp
  rw [hr]
  simp only [Oper.upon, hd, Act.put]
  exact h
/-- a part of a box is set to zero -/
theorem SemK.clear {x : Operand} {z by_ : Nat} {ea : Bool} {r off l c : Nat} {cs zc : List D} (hT : tyT P T = .slice z by_ ea) (hx : rd e x = .bsub r off z l c) (he : e.o r = .box cs) (hzc : zeroElemT P T = some zc) (hzl : zc.length = z) (hzp : ∀ d ∈ zc, permOk d)
    (hoff : off + l * z ≤ cs.length) (hK : K (updO e r (.box (wput cs off (List.replicate l zc).flatten)))) :
    SemK P n ⟨none, .call ⟨.builtin .clear, #[x], #[T]⟩, ty, pos, after, gu⟩ e K := by
  intro w0 l0 G S0 w lev own S a next Q h hn hdf hnext
  have hox := h.opd a rfl x
  rw [hx] at hox
  obtain ⟨el, inf, hu, hl, hin, hb, hz, zv, hzv, hzz⟩ := tyT_slice hT
  have hze : zeroT P el = some zc := by rw [← hzc]; simp [zeroElemT, hu]
  obtain ⟨zv', hzr', hzs, hzrep⟩ := zero_cells hze w
  have hzr : (zeroValue el).run P w = .ok zv w := by simp [zeroValue, Sem.run_bind, run_info hin, hzv, Sem.run, pure]
  have hzz' : zv' = zv := by rw [hzr] at hzr'; cases hzr'; rfl
  subst hzz'
  obtain ⟨ad, a', cap', hS, hv, g3, g4, g5, rfl, g6⟩ := hox.bsub_inv
  have hm : (#[x].map a.eval : Array Value) = #[a.eval x] := by simp
  by_cases h0 : l = 0
  · subst h0
    have hw : wput cs off [] = cs := by simp [wput]
    simp only [List.replicate_zero, List.flatten_nil, hw, updO_id he] at hK
    refine upon_none rfl (u := .tuple #[]) ?_ (hnext _ _ _ _ _ a hn hdf h hK)
    cases a' <;> simp [execOp, resolve, Sem.run_bind, pure, Sem.run, invoke, builtin, hm, Builtin.clear_, run_und hu, hv]
  · have ha' := g6 (by omega)
    subst ha'
    have hfl : (List.replicate l zc).flatten.length = l * z := flat_length hzl l
    have hnl : (Builtin.zeroCells zv'.cells l).toList.length = (List.replicate l zc).flatten.length := by rw [hfl]; simp [Builtin.zeroCells, hzz]
    have hat : ∀ (j : Nat) v, (Builtin.zeroCells zv'.cells l).toList[j]? = some v → ∃ d, zc[j % z]? = some d ∧ RepV (cx w lev S) v d := by
      intro j v hj
      have hjl : j < l * z := by have := (List.getElem?_eq_some_iff.1 hj).1; omega
      have hmz : j % z < z := Nat.mod_lt _ (by omega)
      have hmz' : j % z < zv'.cells.size := by rw [hzz]; exact hmz
      have hmc : j % z < zc.length := by rw [hzl]; exact hmz
      have : v = zv'.cells[j % z] := by
        simp only [Builtin.zeroCells, Array.getElem?_toList, Array.getElem?_map] at hj
        rw [Array.getElem?_eq_getElem (by simp [hzz]; exact hjl)] at hj
        simp only [Option.map_some, Array.getElem_range, Option.some.injEq, hzz] at hj
        rw [← hj, getElem!_pos zv'.cells _ hmz']
      subst this
      exact ⟨zc[j % z], by simp [hmc], hzrep _ (j % z) _ _ (by simp [hmz']) (by simp [hmc])⟩
    obtain ⟨w', hr, hi⟩ := h.writeBox (P := P) he hnl (by
      intro v hv
      obtain ⟨j, hj⟩ := List.mem_iff_getElem?.1 hv
      obtain ⟨d, hd, hr⟩ := hat j v hj
      exact (rep_one hr (hzp d (List.mem_of_getElem? hd)).1).1) (by
      intro j v d hj hd
      have hjl : j < l * z := by have := (List.getElem?_eq_some_iff.1 hd).1; omega
      rw [flat_get hzl hz l j hjl] at hd
      obtain ⟨d', hd', hr⟩ := hat j v hj
      rw [hd] at hd'
      cases hd'
      exact hr) (by rw [hfl]; exact hoff) hS
    refine upon_none rfl (u := .tuple #[]) ?_ (hnext _ _ _ _ _ a hn hdf hi hK)
    cases l with
    | zero => exact (h0 rfl).elim
    | succ l => simp [execOp, resolve, Sem.run_bind, pure, Sem.run, invoke, builtin, hm, Builtin.clear_, run_und hu, hv, hzr, hr]
/-- a part of an own slice is set to zero -/
theorem SemK.clearOwn {x : Operand} {z by_ : Nat} {ea : Bool} {r lo l : Nat} {R : List (List D)} {zc : List D} (hT : tyT P T = .slice z by_ ea) (hx : rd e x = .osub r z lo l) (he : e.o r = .own z R) (hzc : zeroElemT P T = some zc) (hzl : zc.length = z) (hzp : ∀ d ∈ zc, permOk d)
    (hoff : lo + l ≤ R.length) (h0 : l ≠ 0) (hK : K (updO e r (.own z (splice R lo (List.replicate l zc))))) :
    SemK P n ⟨none, .call ⟨.builtin .clear, #[x], #[T]⟩, ty, pos, after, gu⟩ e K := by
  intro w0 l0 G S0 w lev own S a next Q h hn hdf hnext
  have hox := h.opd a rfl x
  rw [hx] at hox
  obtain ⟨el, inf, hu, hl, hin, hb, hz, zv, hzv, hzz⟩ := tyT_slice hT
  have hze : zeroT P el = some zc := by rw [← hzc]; simp [zeroElemT, hu]
  obtain ⟨zv', hzr', hzs, hzrep⟩ := zero_cells hze w
  have hzr : (zeroValue el).run P w = .ok zv w := by simp [zeroValue, Sem.run_bind, run_info hin, hzv, Sem.run, pure]
  have hzz' : zv' = zv := by rw [hzr] at hzr'; cases hzr'; rfl
  subst hzz'
  obtain ⟨ad, a', L, cap, cap', hS, hv, g3, g4, g5⟩ := hox.osub_inv
  obtain ⟨b, hab, ha'⟩ := g3 h0
  have hm : (#[x].map a.eval : Array Value) = #[a.eval x] := by simp
  have hat : ∀ (j : Nat) v, (Builtin.zeroCells zv'.cells l).toList[j]? = some v → ∃ d, zc[j % z]? = some d ∧ RepV (cx w lev S) v d := by
    intro j v hj
    have hjl : j < l * z := by have := (List.getElem?_eq_some_iff.1 hj).1; simp [Builtin.zeroCells, hzz] at this; omega
    have hmz : j % z < z := Nat.mod_lt _ (by omega)
    have hmz' : j % z < zv'.cells.size := by rw [hzz]; exact hmz
    have hmc : j % z < zc.length := by rw [hzl]; exact hmz
    have : v = zv'.cells[j % z] := by
      simp only [Builtin.zeroCells, Array.getElem?_toList, Array.getElem?_map] at hj
      rw [Array.getElem?_eq_getElem (by simp [hzz]; exact hjl)] at hj
      simp only [Option.map_some, Array.getElem_range, Option.some.injEq, hzz] at hj
      rw [← hj, getElem!_pos zv'.cells _ hmz']
    subst this
    exact ⟨zc[j % z], by simp [hmc], hzrep _ (j % z) _ _ (by simp [hmz']) (by simp [hmc])⟩
  have hlen : (Builtin.zeroCells zv'.cells l).toList.length = l * z := by simp [Builtin.zeroCells, hzz]
  obtain ⟨b', w', hb', hr, hi⟩ := h.writeOwn (P := P) (N := List.replicate l zc) (news := (Builtin.zeroCells zv'.cells l).toList) he (i := lo) (by rw [List.length_replicate]; exact hlen) (by
      intro v hv
      obtain ⟨j, hj⟩ := List.mem_iff_getElem?.1 hv
      obtain ⟨d, hd, hr⟩ := hat j v hj
      exact (rep_one hr (hzp d (List.mem_of_getElem? hd)).1).1)
    (by intro r hr; rw [(List.mem_replicate.1 hr).2]; exact hzl) (by intro r hr; rw [(List.mem_replicate.1 hr).2]; exact hzp) (by
      intro i j row d hi hj
      have hil : i < l := by
        have := (List.getElem?_eq_some_iff.1 hi).1
        simpa using this
      have hr : row = zc := (List.mem_replicate.1 (List.mem_of_getElem? hi)).2
      subst hr
      have hjz : j < z := by rw [← hzl]; exact (List.getElem?_eq_some_iff.1 hj).1
      have hlt : i * z + j < l * z := idx_lt hjz hil
      have hmod : (i * z + j) % z = j := by rw [Nat.add_comm, Nat.add_mul_mod_self_right, Nat.mod_eq_of_lt hjz]
      have hk : i * z + j < (Builtin.zeroCells zv'.cells l).toList.length := by rw [hlen]; exact hlt
      obtain ⟨d', hd', hr⟩ := hat (i * z + j) _ (List.getElem?_eq_getElem hk)
      rw [hmod, hj] at hd'
      cases hd'
      exact ⟨_, List.getElem?_eq_getElem hk, hr⟩) (by rw [List.length_replicate]; exact hoff) hS (by intro e0; subst e0; simp at hoff; omega)
  rw [hab] at hb'
  cases hb'
  subst ha'
  refine upon_none rfl (u := .tuple #[]) ?_ (hnext _ _ _ _ _ a hn hdf hi hK)
  cases l with
  | zero => exact (h0 rfl).elim
  | succ l => simp [execOp, resolve, Sem.run_bind, pure, Sem.run, invoke, builtin, hm, Builtin.clear_, run_und hu, hv, hzr, hr]
/-- a slice with three bounds, that nobody reads -/
theorem SemK.slice4 {x lo hi mx : Operand} {z by_ : Nat} {ea : Bool} {r off l c : Nat} {k1 k2 k3 : IntKind} {i j m : Int} (hT : tyT P T = .slice z by_ ea) (hx : rd e x = .bsub r off z l c) (hlo : rd e lo = .int k1 i) (hhi : rd e hi = .int k2 j) (hmx : rd e mx = .int k3 m)
    (hd : d < n) (h1 : 0 ≤ i) (h2 : i ≤ j) (h3 : j ≤ m) (h4 : m ≤ c) (hK : K (updT e d .undef)) :
    SemK P n ⟨some d, .slice T x (some lo) (some hi) (some mx), ty, pos, after, gu⟩ e K := by
  intro w0 l0 G S0 w lev own S a next Q h hn hdf hnext
  have hox := h.opd a rfl x
  have ho1 := h.opd a rfl lo
  have ho2 := h.opd a rfl hi
  have ho3 := h.opd a rfl mx
  rw [hx] at hox
  rw [hlo] at ho1
  rw [hhi] at ho2
  rw [hmx] at ho3
  have e1 := ho1.int_inv
  have e2 := ho2.int_inv
  have e3 := ho3.int_inv
  obtain ⟨el, inf, hu, hl, hin, hb, hz, zv, hzv, hzz⟩ := tyT_slice hT
  obtain ⟨ad, a', cap', hS, hv, g3, g4, g5, rfl, g6⟩ := hox.bsub_inv
  have b1 : 0 ≤ m ∧ m ≤ (cap' : Int) := ⟨by omega, h4⟩
  have b2 : 0 ≤ j ∧ j ≤ ((m.toNat : Nat) : Int) := ⟨by omega, by omega⟩
  have b3 : 0 ≤ i ∧ i ≤ ((j.toNat : Nat) : Int) := ⟨h1, by omega⟩
  refine upon_value rfl (u := .slice (if m.toNat = i.toNat then a' else a'.map (·.add (i.toNat * z))) (j.toNat - i.toNat) (m.toNat - i.toNat)) ?_ (go_next hn hdf hnext hd (h.put (.undef _)) hK)
  have hbd : (Instr.sliceBounds true l cap' (some (a.eval lo)) (some (a.eval hi)) (some (a.eval mx))).run P w = .ok (i.toNat, j.toNat, m.toNat) w := by
    simp only [Instr.sliceBounds, Sem.run_bind, Instr.sliceBound, asIntOf, e1, e2, e3, if_pos b1, if_pos b2, if_pos b3, Sem.run, pure, Result.andThen]
  simp [execOp, Instr.sliceAt, Sem.run_bind, run_und hu, Instr.slice, hv, hbd, run_lsize hl, Sem.run, pure]
/-- a call of a function that the machine itself answers -/
theorem extern_run {k : FuncId} {fn : Func} {en : Array Value → Sem Value} {f : Operand} {as : Array Operand} {ts : Array TypeId} {a : Act} {u : Value} (hf : a.eval f = .func (.func k) #[] #[]) (hk : P.funcs[k]? = some fn) (hname : (fn.name == "runtime.NumGoroutine") = false)
    (hb : fn.body.isNone = true) (hn : Extern.findNext fn = none) (he : Extern.find fn = some en) (hr : (en (as.map a.eval)).run P w = .ok u w) :
    (execOp a.eval ⟨some d, .call ⟨.value f, as, ts⟩, ty, pos, after, gu⟩).run P w = .ok (.value u) w := by
  have h1 : fn.name ≠ "runtime.NumGoroutine" := by simpa using hname
  have h2 : fn.body = none := by simpa using hb
  simp [execOp, resolve, hf, Deferred.ofValue, Sem.run_bind, invoke, callFunc, hk, h1, h2, hn, he, program, mark, Sem.run, pure, hr]
/-- the sum of two words and a carry -/
theorem SemK.add64 {f x y c : Operand} {k : FuncId} {fn : Func} {ts : Array TypeId} {i j m : Int} (hf : rd e f = .fn k []) (hk : P.funcs[k]? = some fn) (hname : (fn.name == "runtime.NumGoroutine") = false) (hb : fn.body.isNone = true) (hn : Extern.findNext fn = none) (he : Extern.find fn = some add64Entry)
    (hx : rd e x = .int .u64 i) (hy : rd e y = .int .u64 j) (hc : rd e c = .int .u64 m) (h1 : 0 ≤ i) (h2 : 0 ≤ j) (h3 : 0 ≤ m) (h4 : m ≤ 1) (hd : d < n) (hK : K (updT e d (.tup [.int .u64 ((i + j + m) % 18446744073709551616), .int .u64 ((i + j + m) / 18446744073709551616)]))) :
    SemK P n ⟨some d, .call ⟨.value f, #[x, y, c], ts⟩, ty, pos, after, gu⟩ e K := by
  intro w0 l0 G S0 w lev own S a next Q h hnn hdf hnext
  have hof := h.opd a rfl f
  have ho1 := h.opd a rfl x
  have ho2 := h.opd a rfl y
  have ho3 := h.opd a rfl c
  rw [hf] at hof
  rw [hx] at ho1
  rw [hy] at ho2
  rw [hc] at ho3
  obtain ⟨cv, hv, hcs, hcc⟩ := hof.fn_inv
  have hcv : cv = #[] := Array.eq_empty_of_size_eq_zero (by simpa using hcs)
  subst hcv
  have hm : (#[x, y, c].map a.eval : Array Value) = #[.int .u64 i, .int .u64 j, .int .u64 m] := by simp [ho1.int_inv, ho2.int_inv, ho3.int_inv]
  refine upon_value rfl (extern_run hv hk hname hb hn he (by rw [hm]; exact run_add64 i j m h1 h2 h3 h4 w)) (go_next hnn hdf hnext hd (h.put (.tup _ _ rfl ?_)) hK)
  intro i' v dd hi' hd'
  rcases i' with _ | _ | i'
  · simp at hi' hd'; subst hi'; subst hd'; exact .int _ _
  · simp at hi' hd'; subst hi'; subst hd'; exact .int _ _
  · simp at hi'
theorem overlaps_two (ps rs : Array TypeId) (a b : Option Addr) (la ca lb cb : Nat) : Extern.SlicesOverlaps.overlaps ps rs #[.slice a la ca, .slice b lb cb] = (do
    let some t := ps[0]? | stuck "slices.overlaps: no parameter types"
    let .slice elem ← underlying t | stuck "slices.overlaps: slice type expected"
    let size ← sizeOf elem
    match a, b with
    | some a, some b =>
      if la = 0 ∨ lb = 0 ∨ size = 0 then pure (.bool false)
      else if a.block != b.block && (← frozen a) && (← frozen b) then unsupported .addressObserved
      else do
        if a.block != b.block then do
          noView a; noView b
          if ← mayBeOne a b then return .bool ((← choose (.extern "sameAddr.stringBytes" 2)) == 1)
        pure (.bool (a.block == b.block && a.off < b.off + lb * size && b.off < a.off + la * size))
    | _, _ => pure (.bool false)) := rfl
/-- a part of a box and an own slice have no cell in common -/
theorem SemK.overlaps {f x y : Operand} {k : FuncId} {fn : Func} {ts : Array TypeId} {t0 : TypeId} {z by_ : Nat} {ea : Bool} {r2 z2 r off l c : Nat} {rows : List (List D)} {cs : List D} (hf : rd e f = .fn k []) (hk : P.funcs[k]? = some fn) (hname : (fn.name == "runtime.NumGoroutine") = false) (hb : fn.body.isNone = true)
    (hn : Extern.findNext fn = none) (he : Extern.find fn = some (Extern.SlicesOverlaps.overlaps fn.params fn.resultTypes)) (hp : fn.params[0]? = some t0) (hT : tyT P t0 = .slice z by_ ea) (hx : rd e x = .ref r2) (hxo : e.o r2 = .own z2 rows) (hy : rd e y = .bsub r off z l c) (hyo : e.o r = .box cs)
    (hd : d < n) (hK : K (updT e d (.bool false))) :
    SemK P n ⟨some d, .call ⟨.value f, #[x, y], ts⟩, ty, pos, after, gu⟩ e K := by
  intro w0 l0 G S0 w lev own S a next Q h hnn hdf hnext
  have hof := h.opd a rfl f
  have ho1 := h.opd a rfl x
  have ho2 := h.opd a rfl y
  rw [hf] at hof
  rw [hx] at ho1
  rw [hy] at ho2
  obtain ⟨cv, hv, hcs, hcc⟩ := hof.fn_inv
  have hcv : cv = #[] := Array.eq_empty_of_size_eq_zero (by simpa using hcs)
  subst hcv
  obtain ⟨el, inf, hu, hl, hin, hbi, hz, zv, hzv, hzz⟩ := tyT_slice hT
  obtain ⟨ad, a', cap', hS, hvy, g3, g4, g5, rfl, g6⟩ := ho2.bsub_inv
  obtain ⟨hS2, b2, len2, cap2, hvx⟩ := ho1.ref_inv
  rw [hvx] at hS2
  have hS2 : S r2 = _ := hS2
  have hS : S r = _ := hS
  have hobj := h.objs r
  rw [hyo] at hobj
  obtain ⟨b, o, cc, E, q1, q2, q3, q4, q5, q6, q7⟩ := hobj
  have had : ad = ⟨b, o, none⟩ := by rw [q1] at hS; cases hS; rfl
  have hobj2 := h.objs r2
  rw [hxo] at hobj2
  have hrr : r2 ≠ r := by rintro rfl; rw [hxo] at hyo; cases hyo
  have hm : (#[x, y].map a.eval : Array Value) = #[.slice b2 len2 cap2, .slice a' l cap'] := by simp [hvx, hvy]
  refine upon_value rfl (extern_run (u := .bool false) hv hk hname hb hn he ?_) (go_next hnn hdf hnext hd (h.put (.bool _)) hK)
  rw [hm, overlaps_two]
  by_cases hz0 : len2 = 0 ∨ l = 0 ∨ z = 0
  · cases b2 <;> cases a' <;> simp [hp, Sem.run_bind, run_und hu, run_lsize hl, hz0, Sem.run, pure]
  · have hc0 : cap' ≠ 0 := by omega
    have ha' := g6 hc0
    subst ha'
    subst had
    rcases hobj2 with ⟨aa, p1, p2⟩ | ⟨b', c', E', cap3, p1, p2, p3, p4, p5, p6, p7, p8, p9, p10⟩
    · rw [p1] at hS2; cases hS2; exact (hz0 (.inl rfl)).elim
    · have : b2 = some ⟨b', 0, none⟩ := by rw [p1] at hS2; cases hS2; rfl
      subst this
      have hbb : b' ≠ b := by rintro rfl; rw [p8] at q5; cases q5; exact hrr rfl
      have f1 : w.frozen? ⟨b', 0, none⟩ = false := by simp [World.frozen?, p2]
      have f2 : ∀ i, w.frozen? ⟨b, i, none⟩ = false := by intro i; simp [World.frozen?, q2]
      have f3 : ∀ i, w.frozen? ⟨b', i, none⟩ = false := by intro i; simp [World.frozen?, p2]
      have s1 : w.shape? b' = some (E', c'.size) := by simp [World.shape?, p2]
      have s2 : w.shape? b = some (E, cc.size) := by simp [World.shape?, q2]
      have hao : (⟨b, o, none⟩ : Addr).add off = ⟨b, o + off, none⟩ := add_off _ _ _
      rw [hao]
      simp [hp, Sem.run_bind, run_und hu, run_lsize hl, hz0, hbb, f1, f2, f3, s1, s2, noView, viewAt, mayBeOne, stringish, Sem.run, pure]
end
end Go.Abs
