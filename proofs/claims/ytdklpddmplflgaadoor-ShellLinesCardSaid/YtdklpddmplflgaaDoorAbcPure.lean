/- Operations that only compute or read do what AbcOps says; no theorem of a claim. -/
import Derived.Test.YtdklpddmplflgaaDoorAbcOps
set_option linter.unusedSimpArgs false
set_option linter.unusedVariables false
namespace Go.Abs

section
variable {P : Program} {w0 w w' : World} {l0 : Nat → Option Nat} {G : Nat → Option (Nat × Nat)} {S0 : Nat → Option Value} {lev lev' own own' : Nat → Option Nat} {S S' : Nat → Option Value} {env env' : Env} {tm tm' : Nat → Value}

theorem run_v {s : Sem Value} {u : Value} {w' : World} (h : s.run P w = .ok u w') : (do pure (Next.value (← s)) : Sem Next).run P w = .ok (.value u) w' := by
  simp [Sem.run_bind, h, Sem.run, pure]
theorem list1 {α : Type} {a : Array α} {x : α} (h : a.toList = [x]) : a = #[x] := Array.ext' (by simpa using h)

theorem run_max {V : Cx} : ∀ (vs : List Value) (ds : List D) (x : Value) (d : D), RepV V x d → (∃ k n, d = .int k n) → vs.length = ds.length → (∀ (i : Nat) v e, vs[i]? = some v → ds[i]? = some e → RepV V v e) → intsOk ds →
    ∃ u, (vs.foldlM Builtin.max2 x).run P w = .ok u w ∧ RepV V u (ds.foldl max2D d) ∧ ∃ k n, ds.foldl max2D d = .int k n
  | [], [], x, d, hx, hd, _, _, _ => ⟨x, rfl, hx, hd⟩
  | [], _ :: _, _, _, _, _, h, _, _ => by simp at h
  | _ :: _, [], _, _, _, _, h, _, _ => by simp at h
  | v :: vs, e :: ds, x, d, hx, ⟨k, n, hd⟩, hl, hr, hi => by
    cases e <;> try exact hi.elim
    rename_i k' m
    subst hd
    have hv := hr 0 v _ rfl rfl
    have e1 := hx.int_inv
    have e2 := hv.int_inv
    subst e1; subst e2
    obtain ⟨u, h1, h2, h3⟩ := run_max vs ds (.int k (if m > n then m else n)) (.int k (if m > n then m else n)) (.int _ _) ⟨_, _, rfl⟩ (by simpa using hl) (fun i v e hv he => hr (i + 1) v e hv he) hi
    refine ⟨u, ?_, h2, h3⟩
    simp only [List.foldlM_cons, Sem.run_bind, Builtin.max2]
    exact h1
theorem run_min {V : Cx} : ∀ (vs : List Value) (ds : List D) (x : Value) (d : D), RepV V x d → (∃ k n, d = .int k n) → vs.length = ds.length → (∀ (i : Nat) v e, vs[i]? = some v → ds[i]? = some e → RepV V v e) → intsOk ds →
    ∃ u, (vs.foldlM Builtin.min2 x).run P w = .ok u w ∧ RepV V u (ds.foldl min2D d) ∧ ∃ k n, ds.foldl min2D d = .int k n
  | [], [], x, d, hx, hd, _, _, _ => ⟨x, rfl, hx, hd⟩
  | [], _ :: _, _, _, _, _, h, _, _ => by simp at h
  | _ :: _, [], _, _, _, _, h, _, _ => by simp at h
  | v :: vs, e :: ds, x, d, hx, ⟨k, n, hd⟩, hl, hr, hi => by
    cases e <;> try exact hi.elim
    rename_i k' m
    subst hd
    have hv := hr 0 v _ rfl rfl
    have e1 := hx.int_inv
    have e2 := hv.int_inv
    subst e1; subst e2
    obtain ⟨u, h1, h2, h3⟩ := run_min vs ds (.int k (if m < n then m else n)) (.int k (if m < n then m else n)) (.int _ _) ⟨_, _, rfl⟩ (by simpa using hl) (fun i v e hv he => hr (i + 1) v e hv he) hi
    refine ⟨u, ?_, h2, h3⟩
    simp only [List.foldlM_cons, Sem.run_bind, Builtin.min2]
    exact h1


theorem run_sliceBound {v : Value} {k : IntKind} {i : Int} {y : Nat} (hv : v = .int k i) (h0 : 0 ≤ i) (h1 : i ≤ y) (code : BoundsCode) (w : World) : (Instr.sliceBound v y code).run P w = .ok i.toNat w := by
  subst hv
  simp only [Instr.sliceBound, Sem.run_bind, asIntOf, pure, Sem.run, Result.andThen_ok]
  rw [if_pos ⟨h0, h1⟩]
  rfl
theorem run_bounds {V : Cx} {rho : Operand → Value} {e : Env} (hr : ∀ o, RepV V (rho o) (rd e o)) {lo hi : Option Operand} {k k' : IntKind} {l h : Int} {N cap : Nat} (hN : N ≤ cap) (h1 : slB e 0 lo = .int k l) (h2 : slB e N hi = .int k' h) (h0 : 0 ≤ l) (hlh : l ≤ h) (hh : h ≤ cap) (isSl : Bool) (w : World) :
    (Instr.sliceBounds isSl N cap (lo.map rho) (hi.map rho) none).run P w = .ok (l.toNat, h.toNat, cap) w := by
  have hhi : ∀ code, (match hi.map rho with | some v => Instr.sliceBound v cap code | none => pure N : Sem Nat).run P w = .ok h.toNat w := by
    intro code
    cases hi with
    | none =>
      simp only [slB, D.int.injEq] at h2
      obtain ⟨_, rfl⟩ := h2
      rfl
    | some o =>
      simp only [slB] at h2
      have := hr o
      rw [h2] at this
      exact run_sliceBound this.int_inv (by omega) (by omega) code w
  have hlo : ∀ code, (match lo.map rho with | some v => Instr.sliceBound v h.toNat code | none => pure 0 : Sem Nat).run P w = .ok l.toNat w := by
    intro code
    cases lo with
    | none =>
      simp only [slB, D.int.injEq] at h1
      obtain ⟨_, rfl⟩ := h1
      rfl
    | some o =>
      simp only [slB] at h1
      have := hr o
      rw [h1] at this
      exact run_sliceBound this.int_inv h0 (by omega) code w
  have hh1 := hhi .sliceAcap
  have hh2 := hhi .sliceAlen
  have hl1 := hlo .sliceB
  cases isSl <;> cases hi <;> cases lo <;> simp_all [Instr.sliceBounds, Sem.run_bind, Sem.run, pure]

theorem run_sliceAt_sl {V : Cx} {rho : Operand → Value} {e : Env} (hr : ∀ o, RepV V (rho o) (rd e o)) {lo hi : Option Operand} {k k' : IntKind} {l h : Int} {N cap : Nat} (hN : N ≤ cap) (h1 : slB e 0 lo = .int k l) (h2 : slB e N hi = .int k' h) (h0 : 0 ≤ l) (hlh : l ≤ h) (hh : h ≤ cap)
    {t : TypeId} {z by_ : Nat} {ea : Bool} (ht : tyT P t = .slice z by_ ea) (a : Option Addr) (w : World) :
    (Instr.sliceAt t (.slice a N cap) (lo.map rho) (hi.map rho) none).run P w = .ok (.slice (if cap = l.toNat then a else a.map (·.add (l.toNat * z))) (h.toNat - l.toNat) (cap - l.toNat)) w := by
  obtain ⟨el, inf, hu, hlay, hin, hb, hz, _⟩ := tyT_slice ht
  have hbd := run_bounds (P := P) hr hN h1 h2 h0 hlh hh true w
  simp [Instr.sliceAt, Sem.run_bind, run_und hu, Instr.slice, hbd, run_lsize hlay, Sem.run, pure]
theorem run_sliceAt_arr {V : Cx} {rho : Operand → Value} {e : Env} (hr : ∀ o, RepV V (rho o) (rd e o)) {lo hi : Option Operand} {k k' : IntKind} {l h : Int} {N : Nat} (h1 : slB e 0 lo = .int k l) (h2 : slB e N hi = .int k' h) (h0 : 0 ≤ l) (hlh : l ≤ h) (hh : h ≤ N)
    {t : TypeId} {z : Nat} {ea : Bool} (ht : tyT P t = .arr N z ea) (a : Addr) (w : World) :
    (Instr.sliceAt t (.pointer (some a)) (lo.map rho) (hi.map rho) none).run P w = .ok (.slice (some (if N = l.toNat then a else a.add (l.toNat * z))) (h.toNat - l.toNat) (N - l.toNat)) w := by
  obtain ⟨el, hu, hlay, hz⟩ := tyT_arr ht
  have hbd := run_bounds (P := P) hr (Nat.le_refl N) h1 h2 h0 hlh hh false w
  simp [Instr.sliceAt, Sem.run_bind, run_und hu, Instr.sureAddr, hbd, run_lsize hlay, Sem.run, pure]

theorem run_slice {V : Cx} (hOwn : ∀ r z rows, env.o r = .own z rows → ∃ a cap, V.S r = some (.slice a rows.length cap) ∧ rows.length ≤ cap ∧ (a = none → rows = [] ∧ cap = 0)) {t : TypeId} {x : Value} {d : D} (hx : RepV V x d) {rho : Operand → Value} (hr : ∀ o, RepV V (rho o) (rd env o)) {lo hi : Option Operand} (h : slOk env (tyT P t) d lo hi) (w : World) :
    ∃ u, (Instr.sliceAt t x (lo.map rho) (hi.map rho) none).run P w = .ok u w ∧ RepV V u (slV env (tyT P t) d lo hi) := by
  rcases Classical.em (∃ r off z len cap, d = .bsub r off z len cap) with ⟨r, off, z, len, bcap, rfl⟩ | hnb
  · unfold slOk SlK at h
    split at h <;> try exact h.elim
    rename_i N k l k' hh hN hl hhi
    obtain ⟨h0, hlh, hhN, _⟩ := h
    cases hty : tyT P t <;> rw [hty] at hN hhi <;> simp only [slC] at hN <;> (try (cases hN; done))
    split at hN <;> try (cases hN; done)
    rename_i by_ ea hz
    cases hN
    subst hz
    simp only [slN, if_true] at hhi
    have hN' : slNd (some len) = (len : Int) := rfl
    rw [hN'] at hhi
    obtain ⟨a, a', cap', hS, rfl, h3, h4, h5, rfl, h6⟩ := hx.bsub_inv
    refine ⟨_, run_sliceAt_sl hr h4 hl hhi h0 hlh hhN hty _ w, ?_⟩
    unfold slV
    rw [hl]
    simp only [slN, if_true, hN', hhi, slD]
    refine .bsub r _ z _ _ a _ hS ?_ (by omega)
    intro hne
    rw [h6 (by omega), if_neg (by omega)]
    simp only [Option.map_some, add_add]
  have hCN : slC env (tyT P t) d = slN env (tyT P t) d := by
    cases d <;> first | rfl | exact (hnb ⟨_, _, _, _, _, rfl⟩).elim
  unfold slOk SlK at h
  rw [hCN] at h
  split at h <;> try exact h.elim
  rename_i N k l k' hh hN hl hhi
  obtain ⟨h0, hlh, hhN, _⟩ := h
  have hN' : slNd (some N) = (N : Int) := rfl
  rw [hN, hN'] at hhi
  unfold slV
  rw [hN, hN', hl, hhi]
  simp only
  cases d <;> simp only [slN] at hN <;> (try (cases hN; done))
  · -- string
    rename_i s
    cases hty : tyT P t <;> rw [hty] at hN <;> simp only at hN <;> (try (cases hN; done))
    cases hN
    rw [hx.str_inv]
    refine ⟨.string (s.extract l.toNat hh.toNat), ?_, .str _⟩
    have hbd := run_bounds (P := P) hr (Nat.le_refl s.size) hl hhi h0 hlh hhN false w
    simp [Instr.sliceAt, Sem.run_bind, run_und (tyT_str hty), Instr.slice, hbd, Sem.run, pure]
  · -- nil
    cases hty : tyT P t <;> rw [hty] at hN <;> simp only at hN <;> (try (cases hN; done))
    cases hN
    cases hx
    refine ⟨_, run_sliceAt_sl hr (Nat.le_refl 0) hl hhi h0 hlh hhN hty _ w, ?_⟩
    have : l.toNat = 0 ∧ hh.toNat = 0 := by omega
    rw [this.1, this.2]
    exact .nil
  · cases hty : tyT P t <;> rw [hty] at hN <;> simp only at hN <;> (try (cases hN; done))
    cases hN
    cases hx
    refine ⟨_, run_sliceAt_sl hr (Nat.le_refl 0) hl hhi h0 hlh hhN hty _ w, ?_⟩
    have : l.toNat = 0 ∧ hh.toNat = 0 := by omega
    rw [this.1, this.2]
    exact .emp _
  · -- rows that stay
    rename_i z rows
    cases hty : tyT P t <;> rw [hty] at hN <;> simp only at hN <;> (try (cases hN; done))
    split at hN <;> try (cases hN; done)
    rename_i by_ ea hz
    cases hN
    subst hz
    obtain ⟨a, cap, rfl, hcap, hrl, hk, hnone, hc⟩ := hx.sl_inv
    refine ⟨_, run_sliceAt_sl hr hcap hl hhi h0 hlh (by omega) hty _ w, ?_⟩
    simp only [slD]
    have hlen : ((rows.take hh.toNat).drop l.toNat).length = hh.toNat - l.toNat := by simp; omega
    cases a with
    | none =>
      obtain ⟨rfl, rfl⟩ := hnone rfl
      have : l.toNat = 0 ∧ hh.toNat = 0 := by simp at hhN; omega
      rw [this.1, this.2]
      exact .slnil _
    | some ad =>
      rw [← hlen]
      by_cases hcl : cap = l.toNat
      · have : hh.toNat = l.toNat := by omega
        rw [if_pos hcl, this]
        have e0 : (rows.take l.toNat).drop l.toNat = [] := by simp
        rw [e0]
        exact repV_sl (rows := []) (by simp) (by simp) (by simp) (by simp)
      · rw [if_neg hcl]
        refine repV_sl (by rw [hlen]; omega) (fun r hr => hrl r (List.mem_of_mem_take (List.mem_of_mem_drop hr))) (fun r hr => hk r (List.mem_of_mem_take (List.mem_of_mem_drop hr))) ?_
        intro i j r d hi hj
        rw [List.getElem?_drop] at hi
        have hi' : rows[l.toNat + i]? = some r := by
          have hlt : l.toNat + i < hh.toNat := by
            have := (List.getElem?_eq_some_iff.1 hi).1
            simp at this; omega
          rwa [List.getElem?_take_of_lt hlt] at hi
        obtain ⟨u, hu', hru⟩ := hc ad rfl _ j r d hi' hj
        refine ⟨u, ?_, hru⟩
        rw [add_add, show l.toNat * z + (i * z + j) = (l.toNat + i) * z + j by rw [Nat.add_mul]; omega]
        exact hu'
  · -- of the frame's own
    rename_i r
    cases hty : tyT P t <;> rw [hty] at hN <;> simp only at hN <;> (try (cases hN; done))
    split at hN <;> try (cases hN; done)
    rename_i z' by_ ea z rows ho
    split at hN <;> try (cases hN; done)
    rename_i hz
    cases hN
    subst hz
    obtain ⟨a, cap, hS, hcap, hnone⟩ := hOwn r z rows ho
    obtain ⟨hS', _⟩ := hx.ref_inv
    rw [hS] at hS'
    cases hS'
    refine ⟨_, run_sliceAt_sl hr hcap hl hhi h0 hlh (by omega) hty _ w, ?_⟩
    simp only [slD, ho]
    refine .osub r z _ _ a _ _ cap _ hS ?_ (by omega) (fun e => by
      have : a = none := by revert e; split <;> simp
      rw [(hnone this).2]; omega)
    intro hne
    cases a with
    | none => rw [(hnone rfl).1] at hhN; simp at hhN; omega
    | some b => exact ⟨b, rfl, by rw [if_neg (by omega)]; rfl⟩
  · -- a pointer to an array
    rename_i r off
    cases hty : tyT P t <;> rw [hty] at hN <;> simp only at hN <;> (try (cases hN; done))
    cases hN
    obtain ⟨a, hS, rfl⟩ := hx.addr_inv
    refine ⟨_, run_sliceAt_arr hr hl hhi h0 hlh hhN hty _ w, ?_⟩
    simp only [slD, hty]
    refine .bsub r _ _ _ _ a _ hS ?_ (by omega)
    intro hne
    rw [if_neg (by omega), add_add]
  · rename_i r z lo' len
    cases hty : tyT P t <;> rw [hty] at hN <;> simp only at hN <;> (try (cases hN; done))
    split at hN <;> try (cases hN; done)
    rename_i hz
    cases hN
    subst hz
    obtain ⟨a, a', L, cap, cap', hS, rfl, h3, h4, h5⟩ := hx.osub_inv
    refine ⟨_, run_sliceAt_sl hr h4 hl hhi h0 hlh (by omega) hty _ w, ?_⟩
    simp only [slD]
    refine .osub r z _ _ a _ _ cap _ hS ?_ (by omega) (fun e => by
      have : a' = none := by revert e; split <;> simp
      rw [h5 this]; omega)
    intro hne
    obtain ⟨b, rfl, rfl⟩ := h3 (by omega)
    refine ⟨b, rfl, ?_⟩
    rw [if_neg (by omega)]
    simp only [Option.map_some, add_add, Nat.add_mul]
  · exact (hnb ⟨_, _, _, _, _, rfl⟩).elim

/-- a value whose len can be asked -/
theorem run_len {V : Cx} (hOwn : ∀ r z rows, env.o r = .own z rows → ∃ a cap, V.S r = some (.slice a rows.length cap)) {t ty : TypeId} {x : Value} {d : D} (hx : RepV V x d) (h : lenOk env (tyT P t) d) :
    ∃ u, (Builtin.len_ #[t] ty #[x]).run P w = .ok u w ∧ RepV V u (lenV env (tyT P t) d) := by
  cases hty : tyT P t <;> rw [hty] at h <;> try (simp only [lenOk] at h; done)
  case str =>
    cases d <;> simp only [lenOk, isStr] at h
    rw [hx.str_inv]
    exact ⟨.int .i64 _, by simp [Builtin.len_, Sem.run_bind, run_und (tyT_str hty), goInt, Sem.run, pure], .int _ _⟩
  case slice z by_ ea =>
    obtain ⟨e, i, hu, _⟩ := tyT_slice hty
    have go : ∀ a n c, x = .slice a n c → lenV env (.slice z by_ ea) d = .int .i64 n → ∃ u, (Builtin.len_ #[t] ty #[x]).run P w = .ok u w ∧ RepV V u (lenV env (.slice z by_ ea) d) := by
      rintro a n c rfl e
      rw [e]
      exact ⟨.int .i64 n, by simp [Builtin.len_, Sem.run_bind, run_und hu, goInt, Sem.run, pure], .int _ _⟩
    cases d <;> simp only [lenOk, lenSOk] at h
    · cases hx; exact go _ _ _ rfl rfl
    · cases hx; exact go _ _ _ rfl rfl
    · obtain ⟨a, cap, rfl, _⟩ := hx.sl_inv
      exact go _ _ _ rfl rfl
    · rename_i r
      cases ho : env.o r <;> rw [ho] at h <;> simp only [ownLenOk] at h
      rename_i z' rows
      obtain ⟨a, cap, hS⟩ := hOwn r z' rows ho
      obtain ⟨hS', _⟩ := hx.ref_inv
      rw [hS] at hS'
      cases hS'
      exact go _ _ _ rfl (by simp [lenV, lenS, ho, ownLenV])
    · obtain ⟨a, a', L, cap, cap', hS, rfl, h3, h4, h5⟩ := hx.osub_inv
      exact go _ _ _ rfl rfl
    · obtain ⟨a, a', cap', hS, rfl, h3, h4, h5⟩ := hx.bsub_inv
      exact go _ _ _ rfl rfl
  case arr n z ea =>
    obtain ⟨e, hu, _⟩ := tyT_arr hty
    exact ⟨.int .i64 n, by simp [Builtin.len_, Sem.run_bind, run_und hu, goInt, Sem.run, pure], .int _ _⟩
end
end Go.Abs
