/- Regions: the predicate on data is enough for the model's own; no theorem of a claim. -/
import Derived.Test.YtdklpddmplflgaaDoorAbcLe
import Derived.Test.YtdklpddmplflgaaDoorAbcList
set_option linter.unusedSimpArgs false
set_option linter.unusedVariables false
namespace Go.Abs

section
variable {P : Program} {n np : Nat} {w0 w w' : World} {l0 : Nat → Option Nat} {G : Nat → Option (Nat × Nat)} {S0 : Nat → Option Value} {lev lev' own own' : Nat → Option Nat} {S S' : Nat → Option Value} {env env' : Env} {tm tm' : Nat → Value}

theorem calls_free {dr : Bool} {e : Env} {d : Nat} {f : Operand} {args : List Operand} {K : Env → Prop} (h : CallT P true e d f args K) : CallT P dr e d f args K := by
  obtain ⟨fz, gs, bw, hs', dv, hdr, h⟩ := h
  exact ⟨fz, gs, bw, hs', dv, fun _ => hdr rfl, CallA_mono (fun _ hk => .inl hk.drawn) h⟩
theorem opD_opK {ops : List Oper} {o : Oper} {e : Env} {g : Bool} {K : Env → Prop} (h : opD P n np ops o e g K) : opK P n false o e g K := by
  obtain ⟨_, h⟩ := h
  unfold opK at h ⊢
  split at h
  · rename_i hh; rw [if_pos hh]; exact ⟨h.1, rfl, h.2.2⟩
  rename_i hh
  rw [if_neg hh]
  cases hd : o.dst with
  | none => cases hop : o.op <;> simp only [opK0, hop, hd] at h ⊢ <;> exact h
  | some d =>
    cases hop : o.op <;> simp only [opK0, hop, hd] at h ⊢ <;> (try exact h)
    case buildSlice t len parts => exact ⟨h.1, fun hg => ⟨(fun h => by cases h), (h.2.1 hg).2⟩, h.2.2⟩
    case call c =>
      refine ⟨h.1, ?_⟩
      have h2 := h.2
      cases hcal : c.callee with
      | invoke r m => rw [hcal] at h2; exact h2
      | value f => rw [hcal] at h2; exact ⟨fun hg => (h2.1 hg).elim (fun hk => .inl (calls_free hk)) (fun hk => (Bool.false_ne_true hk.1.symm).elim), h2.2⟩
      | builtin b =>
        rw [hcal] at h2
        cases b <;> simp only at h2 ⊢ <;> first | exact h2 | exact ⟨h2.1, trivial, h2.2.2⟩

theorem dstAt_get : ∀ (l : List Oper) (j : Nat), dstAt l j = (l[j]?).bind (·.dst)
  | [], j => by simp [dstAt]
  | o :: r, 0 => by simp [dstAt]
  | o :: r, j + 1 => by simp [dstAt, dstAt_get r j]

theorem wanted_of {ops : Array Oper} {o : Oper} {a : Act} (h : Inv w0 l0 G S0 w lev own S env (tmOf a.tmps)) {g : Bool} (hg : gval ops.toList env o.guard = some g) : Region.wanted o (yielded ops a.tmps) = g := by
  unfold gval at hg
  unfold Region.wanted
  cases hgd : o.guard with
  | none => rw [hgd] at hg; simpa using hg.symm
  | some p =>
    obtain ⟨j, want⟩ := p
    rw [hgd] at hg
    simp only at hg ⊢
    rw [dstAt_get] at hg
    have hj : ops.toList[j]? = ops[j]? := by simp
    rw [hj] at hg
    unfold yielded
    cases ht : (ops[j]?).bind (·.dst) with
    | none =>
      rw [ht] at hg
      simp only [Option.some.injEq] at hg
      subst hg
      simp
    | some t =>
      rw [ht] at hg
      simp only at hg
      simp only [Option.bind_some]
      have hop := h.opd a rfl (.tmp t)
      unfold wantD at hg
      split at hg
      · rename_i b hb
        rw [hb] at hop
        have hv := hop.bool_inv
        have hlt : t < a.tmps.size := by
          rcases Nat.lt_or_ge t a.tmps.size with hlt | hge
          · exact hlt
          · simp [Act.eval, Array.getElem?_eq_none hge, Go.undef] at hv
        have hget : a.tmps[t]? = some (.bool b) := by
          simp [Act.eval, hlt] at hv
          simp [hlt, hv]
        simp only [hget]
        simp only [Option.some.injEq] at hg
        subst hg
        cases b <;> cases want <;> rfl
      · rename_i hb
        rw [hb] at hop
        obtain ⟨vs, hv, hs, _⟩ := hop.tup_inv
        simp only [Option.some.injEq] at hg
        subst hg
        cases hget : a.tmps[t]? with
        | none => simp
        | some v =>
          have : v = .tuple vs := by simpa [Act.eval, hget] using hv
          subst this
          simp
      · cases hg

theorem emp_sound {a : Act} (h : Inv w0 l0 G S0 w lev own S env (tmOf a.tmps)) (hn : a.tmps.size = n) (hdf : a.defers = []) {o : Oper} {t : TypeId} {d : Nat} (hop : o.op = .buildSlice t 0 #[]) (hd : o.dst = some d) (hdn : d < n) {K : Env → Prop} {next : Act → World → Prop} {Q : Exit → Act → World → Prop}
    (hnext : Cont n w0 l0 G S0 K next) (hk : Emp0 env d K (tyT P t)) : o.wp P a w next Q := by
  unfold Emp0 at hk
  split at hk <;> try exact hk.elim
  rename_i z by_ ea hT
  obtain ⟨hf, hK⟩ := hk
  obtain ⟨e, inf, hu, hl, hin, hb, hz, zv0, hzv0, hzz0⟩ := tyT_slice hT
  have hS := h.fresh hf
  have hi := h.setObj (w' := w.alloc (.cells #[] e)) (r := nm d 0) (d := .undef) (own' := own) (S' := S) (went_alloc h _ none) (visLe_alloc _ _ _ none) (fun _ _ => rfl) (fun _ h => h) (.inl (nm_ge d 0))
    (by
      intro b s _ _ _ hb
      have hlt := h.priv b 0 hb
      have hne : b ≠ w.heap.size := by omega
      exact ⟨heap_alloc_old w _ hlt, setO_ne _ _ hne, rfl⟩)
    (show S (nm d 0) = none from hS)
  have he : updO env (nm d 0) .undef = env := by
    cases env with
    | mk t o =>
      simp only [updO, Env.mk.injEq, true_and]
      funext j
      by_cases hj : j = nm d 0
      · subst hj; simp only [if_true]; exact hf.symm
      · simp [hj]
  rw [he] at hi
  have hput := hi.put (s := d) (v := .slice (some ⟨w.heap.size, 0, none⟩) 0 0) (d := .emp) (.emp _)
  refine upon_value hd (u := .slice (some ⟨w.heap.size, 0, none⟩) 0 0) ?_ (go_next hn hdf hnext hdn hput hK)
  simp only [execOp, hop]
  refine run_v ?_
  have hrow : (newRow e #[]).run P w = .ok ⟨w.heap.size, 0, none⟩ (w.alloc (.cells #[] e)) := by simp [newRow, newObj, Sem.run, Sem.bind, pure, bind]
  have hr0 : (Array.range 0 : Array Nat) = #[] := rfl
  simp [Instr.buildSlice, Sem.run_bind, run_und hu, run_lsize hl, Instr.fill, hr0, hrow, Sem.run, pure]
theorem wpOp_sound {ops : Array Oper} {i : Nat} {o : Oper} (ho : ops[i]? = some o) {a : Act} (h : Inv w0 l0 G S0 w lev own S env (tmOf a.tmps)) (hn : a.tmps.size = n) (hdf : a.defers = []) {K : Env → Prop} {next : Act → World → Prop} {Q : Exit → Act → World → Prop}
    (hnext : Cont n w0 l0 G S0 K next) (hk : wpOp P n ops.toList o env K) : Go.wpOp P ops Q i next a w := by
  unfold wpOp at hk
  cases hg : gval ops.toList env o.guard with
  | none => rw [hg] at hk; exact hk.elim
  | some g =>
    rw [hg] at hk
    unfold Go.wpOp
    simp only [ho, wanted_of h hg]
    cases g with
    | true => exact .inl (opK_sound h hn hdf hnext hk)
    | false =>
      simp only [Bool.false_eq_true, if_false]
      exact opK_skip h hn hdf hnext hk

theorem wpOpD_sound {ops : Array Oper} {i : Nat} {o : Oper} (ho : ops[i]? = some o) {a : Act} (h : Inv w0 l0 G S0 w lev own S env (tmOf a.tmps)) (hn : a.tmps.size = n) (hdf : a.defers = []) {K : Env → Prop} {next : Act → World → Prop} {Q : Exit → Act → World → Prop}
    (hnext : Cont n w0 l0 G S0 K next) (hk : wpOpD P n np ops.toList o env K) : Go.wpOp P ops Q i next a w := by
  unfold wpOpD at hk
  cases hg : gval ops.toList env o.guard with
  | none => rw [hg] at hk; exact hk.elim
  | some g =>
    rw [hg] at hk
    simp only at hk
    by_cases hs : softO ops.toList o = true
    · rw [if_pos hs] at hk
      obtain ⟨hgn, hs | hs⟩ := soft_or hs
      · obtain ⟨t, len, ps, d, hop, hd, rfl, rfl⟩ := hs
        have hg' := hg
        rw [hgn] at hg'
        simp only [gval, Option.some.injEq] at hg'
        subst hg'
        unfold Go.wpOp
        simp only [ho, wanted_of h hg]
        unfold softK at hk
        rw [hop, hd] at hk
        exact .inl (emp_sound h hn hdf hop hd hk.1 hnext hk.2)
      · refine wpOp_sound ho h hn hdf hnext (K := K) ?_
        unfold wpOp
        rw [hgn]
        simp only [gval]
        refine appA_opK hs ?_
        unfold softK at hk
        unfold appA
        have hc : ∃ c, o.op = .call c := by
          unfold isApp at hs
          split at hs
          · rename_i c hop; exact ⟨c, hop⟩
          · cases hs
        obtain ⟨c, hop⟩ := hc
        rw [hop] at hk ⊢
        cases hd : o.dst with
        | none => rw [hd] at hk; exact hk.elim
        | some d =>
          rw [hd] at hk
          refine ⟨hk.1, rfl, ?_⟩
          have hk := hk.2
          split at hk
          · rename_i hx hy
            exact AppS_K hk.2
          · exact hk.elim
    · rw [if_neg hs] at hk
      refine wpOp_sound ho h hn hdf hnext (K := K) ?_
      unfold wpOp
      rw [hg]
      simp only
      split at hk
      · split at hk
        · rename_i ha; exact appA_opK ha hk
        · exact hk
      · exact opD_opK hk
theorem wpList_sound {ops : Array Oper} {Q : Exit → Act → World → Prop} {K : Env → Prop} (hnext : Cont n w0 l0 G S0 K (Q .normal)) : ∀ (l : List Oper) (k : Nat), ops.toList.drop k = l → ∀ (env : Env) lev own S w (a : Act), Inv w0 l0 G S0 w lev own S env (tmOf a.tmps) → a.tmps.size = n → a.defers = [] →
    wpList P n ops.toList l env K → wpOps P ops Q (List.range' k l.length) a w
  | [], k, _, env, lev, own, S, w, a, h, hn, hdf, hk => hnext _ _ _ _ _ a hn hdf h hk
  | o :: l, k, hd, env, lev, own, S, w, a, h, hn, hdf, hk => by
    have ho : ops[k]? = some o := by
      have : (ops.toList.drop k)[0]? = some o := by rw [hd]; rfl
      rw [List.getElem?_drop] at this
      simpa using this
    have hd' : ops.toList.drop (k + 1) = l := by rw [← List.drop_drop, hd]; rfl
    simp only [List.length_cons, List.range'_succ]
    rw [wpOps_cons]
    refine wpOp_sound ho h hn hdf ?_ hk
    intro e' lev' own' S' w' a' hn' hdf' hi hK
    exact wpList_sound hnext l (k + 1) hd' e' lev' own' S' w' a' hi hn' hdf' hK

theorem ready_spec {ops : Array Oper} {listed : Array Bool} {i : Nat} (h : i ∈ Region.ready .any ops listed) : i < ops.size ∧ listed.getD i true = false ∧ ∀ y, ops[i]? = some y → ∀ e ∈ y.after.toList, Region.binds .any e = true → listed.getD e.on false = true := by
  unfold Region.ready at h
  simp only [List.mem_filter, List.mem_range, Bool.and_eq_true, Bool.not_eq_true'] at h
  refine ⟨h.1, h.2.1, ?_⟩
  intro y hy e he hb
  have := h.2.2
  rw [hy] at this
  simp only [Option.map_some, Option.getD_some, Array.all_eq_true_iff_forall_mem, Bool.or_eq_true, Bool.not_eq_true'] at this
  rcases this e (by simpa using he) with h1 | h1
  · rw [hb] at h1; cases h1
  · exact h1

theorem wpAny_of {ops : Array Oper} (hok : drawOk np ops = true) {Q : Exit → Act → World → Prop} {K : Env → Prop} (hnext : Cont n w0 l0 G S0 K (Q .normal)) : ∀ (fuel : Nat) (listed : Array Bool) (env : Env) lev own S w (a : Act),
    listed.size = ops.size → (∀ k y, ops[k]? = some y → listed.getD k false = true → ∀ e ∈ y.after.toList, Region.binds .any e = true → listed.getD e.on false = true) → ((List.range ops.size).filter (fun i => !listed.getD i true)).length ≤ fuel → Inv w0 l0 G S0 w lev own S env (tmOf a.tmps) → a.tmps.size = n → a.defers = [] →
    wpIdxD P n np ops ((List.range ops.size).filter (fun i => !listed.getD i true)) env K → wpAny P .any ops Q fuel listed a w := by
  have hedge : ∀ (i : Nat) y, ops[i]? = some y → ∀ e ∈ y.after.toList, Region.binds .any e = true → e.on < i := by
    intro i y hy e he hb
    have hlt := (Array.getElem?_eq_some_iff.1 hy).1
    simp only [drawOk, List.all_eq_true, List.mem_range] at hok
    have := hok i hlt
    rw [hy] at this
    simp only [Bool.and_eq_true, Array.all_eq_true_iff_forall_mem, Bool.or_eq_true, Bool.not_eq_true', decide_eq_true_eq] at this
    rcases this.1 e (by simpa using he) with h1 | h1
    · rw [hb] at h1; cases h1
    · exact h1
  have hapart : ∀ (i : Nat) y, ops[i]? = some y → ∀ j, j < i → ∀ x, ops[j]? = some x → ((∃ e ∈ y.after.toList, Region.binds .any e = true ∧ e.on = j) ∨ reachB ops 12 i j = true) ∨ ((hardS ops.toList x = false ∧ hardS ops.toList y = false ∧ apartS np ops.toList x y = true) ∨ (mvApp x y = true ∧ softO ops.toList y = false ∧ softO ops.toList x = false)) := by
    intro i y hy j hj x hx
    have hlt := (Array.getElem?_eq_some_iff.1 hy).1
    simp only [drawOk, List.all_eq_true, List.mem_range] at hok
    have := hok i hlt
    rw [hy] at this
    simp only [Bool.and_eq_true, List.all_eq_true, List.mem_range] at this
    have := this.2 j hj
    rw [hx] at this
    simp only [Bool.or_eq_true, Array.any_eq_true', Bool.and_eq_true, beq_iff_eq, Bool.not_eq_true'] at this
    rcases this with ⟨e, he, hb, hon⟩ | ((⟨⟨h1, h2⟩, h3⟩ | ⟨⟨h1, h2⟩, h3⟩) | h1)
    · exact .inl (.inl ⟨e, by simpa using he, hb, hon⟩)
    · exact .inr (.inl ⟨h1, h2, h3⟩)
    · exact .inr (.inr ⟨h1, h2, h3⟩)
    · exact .inl (.inr h1)
  -- what is behind what is listed is listed
  have hreach : ∀ (listed : Array Bool), (∀ k y, ops[k]? = some y → listed.getD k false = true → ∀ e ∈ y.after.toList, Region.binds .any e = true → listed.getD e.on false = true) → ∀ (k i j : Nat), reachB ops k i j = true →
      (∀ y, ops[i]? = some y → ∀ e ∈ y.after.toList, Region.binds .any e = true → listed.getD e.on false = true) → listed.getD j false = true := by
    intro listed hcl k
    induction k with
    | zero => intro i j h; simp [reachB] at h
    | succ k ih =>
      intro i j h hi
      unfold reachB at h
      cases hy : ops[i]? with
      | none => rw [hy] at h; cases h
      | some y =>
        rw [hy] at h
        simp only [Array.any_eq_true', Bool.and_eq_true, Bool.or_eq_true, beq_iff_eq] at h
        obtain ⟨e, he, hb, h⟩ := h
        have hl := hi y hy e (by simpa using he) hb
        rcases h with rfl | h
        · exact hl
        · exact ih e.on j h (fun y' hy' => hcl e.on y' hy' hl)
  -- nothing is ready only if nothing is left
  have hnil : ∀ listed : Array Bool, listed.size = ops.size → Region.ready .any ops listed = [] → (List.range ops.size).filter (fun i => !listed.getD i true) = [] := by
    intro listed hsz hr
    rw [List.filter_eq_nil_iff]
    intro i
    induction i using Nat.strongRecOn with
    | _ i ih =>
      intro hi hu
      have hlt := List.mem_range.1 hi
      have : i ∈ Region.ready .any ops listed := by
        unfold Region.ready
        rw [List.mem_filter]
        refine ⟨hi, ?_⟩
        simp only [Bool.and_eq_true]
        refine ⟨hu, ?_⟩
        have hy : ops[i]? = some ops[i] := by simp [hlt]
        rw [hy]
        simp only [Option.map_some, Option.getD_some, Array.all_eq_true_iff_forall_mem, Bool.or_eq_true, Bool.not_eq_true']
        intro e he
        cases hb : Region.binds .any e with
        | false => exact .inl rfl
        | true =>
          right
          have hon := hedge i _ hy e (by simpa using he) hb
          have h1 := ih e.on hon (List.mem_range.2 (by omega))
          have h2 : listed.getD e.on true = true := by
            cases hx : listed.getD e.on true with
            | true => rfl
            | false => exact (h1 (by rw [hx]; rfl)).elim
          have hsz' : e.on < listed.size := by omega
          simpa [Array.getD_eq_getD_getElem?, hsz'] using h2
      rw [hr] at this
      cases this
  intro fuel
  induction fuel with
  | zero =>
    intro listed env lev own S w a hsz hcl hlen h hn hdf hk
    have hR : (List.range ops.size).filter (fun i => !listed.getD i true) = [] := List.length_eq_zero_iff.1 (by omega)
    rw [hR] at hk
    refine ⟨?_, hnext _ _ _ _ _ a hn hdf h hk⟩
    rw [List.eq_nil_iff_forall_not_mem]
    intro i hi
    obtain ⟨h1, h2, _⟩ := ready_spec hi
    have : i ∈ (List.range ops.size).filter (fun i => !listed.getD i true) := List.mem_filter.2 ⟨List.mem_range.2 h1, by rw [h2]; rfl⟩
    rw [hR] at this
    cases this
  | succ fuel ih =>
    intro listed env lev own S w a hsz hcl hlen h hn hdf hk
    refine ⟨?_, ?_⟩
    · intro hr
      rw [hnil listed hsz hr] at hk
      exact hnext _ _ _ _ _ a hn hdf h hk
    · intro i hi
      obtain ⟨h1, h2, h3⟩ := ready_spec hi
      have hiR : i ∈ (List.range ops.size).filter (fun i => !listed.getD i true) := List.mem_filter.2 ⟨List.mem_range.2 h1, by rw [h2]; rfl⟩
      obtain ⟨pre, post, hpp⟩ := List.append_of_mem hiR
      have hy : ops[i]? = some ops[i] := by simp [h1]
      have hsorted : ((List.range ops.size).filter (fun i => !listed.getD i true)).Pairwise (· < ·) := List.Pairwise.filter _ List.pairwise_lt_range
      rw [hpp] at hsorted hk hlen
      have hpre : ∀ j ∈ pre, j < i := by
        intro j hj
        have := List.pairwise_append.1 hsorted
        exact this.2.2 j hj i (by simp)
      have hpost : ∀ j ∈ post, i < j := by
        intro j hj
        have := (List.pairwise_append.1 hsorted).2.1
        exact (List.pairwise_cons.1 this).1 j hj
      have hfr := wpIdxD_front (P := P) (n := n) (np := np) hy pre post env K (by
        intro j hj x hx
        rcases hapart i _ hy j (hpre j hj) x hx with h5 | h4
        · have hl : listed.getD j false = true := by
            rcases h5 with ⟨e, he, hb, hon⟩ | h5
            · rw [← hon]; exact h3 _ hy e he hb
            · exact hreach listed hcl 12 i j h5 h3
          have hjR : j ∈ (List.range ops.size).filter (fun i => !listed.getD i true) := by rw [hpp]; exact List.mem_append_left _ hj
          have hju := (List.mem_filter.1 hjR).2
          have hjs : j < listed.size := by have := hpre j hj; omega
          simp [Array.getD_eq_getD_getElem?, hjs] at hl hju
          rw [hl] at hju
          cases hju
        · exact h4) hk
      simp only [wpIdxD, hy] at hfr
      have hR' : (List.range ops.size).filter (fun k => !(listed.setIfInBounds i true).getD k true) = pre ++ post := by
        have hf : ∀ k, (!(listed.setIfInBounds i true).getD k true) = ((!listed.getD k true) && decide (k ≠ i)) := by
          intro k
          simp only [Array.getD_eq_getD_getElem?, Array.getElem?_setIfInBounds]
          by_cases hki : i = k
          · subst hki
            simp [hsz, h1]
          · simp [hki, Ne.symm hki]
        have : (List.range ops.size).filter (fun k => !(listed.setIfInBounds i true).getD k true) = ((List.range ops.size).filter (fun k => !listed.getD k true)).filter (fun k => decide (k ≠ i)) := by
          rw [List.filter_filter]
          refine List.filter_congr ?_
          intro k _
          rw [hf k, Bool.and_comm]
        rw [this, hpp, List.filter_append, List.filter_cons]
        simp only [ne_eq, not_true_eq_false, decide_false, Bool.false_eq_true, if_false]
        rw [List.filter_eq_self.2 (fun j hj => by have := hpre j hj; simp; omega), List.filter_eq_self.2 (fun j hj => by have := hpost j hj; simp; omega)]
      refine wpOpD_sound hy h hn hdf ?_ hfr
      intro e' lev' own' S' w' a' hn' hdf' hi' hK
      refine ih _ e' lev' own' S' w' a' (by simpa using hsz) ?_ ?_ hi' hn' hdf' (by rw [hR']; exact hK)
      · intro k y hk hl e he hb
        have hmono : ∀ m, listed.getD m false = true → (listed.setIfInBounds i true).getD m false = true := by
          intro m hm
          simp only [Array.getD_eq_getD_getElem?, Array.getElem?_setIfInBounds] at hm ⊢
          by_cases him : i = m
          · subst him; simp [hsz, h1]
          · simpa [him] using hm
        by_cases hik : i = k
        · subst hik
          exact hmono _ (h3 y hk e he hb)
        · refine hmono _ (hcl k y hk ?_ e he hb)
          simpa [Array.getD_eq_getD_getElem?, Array.getElem?_setIfInBounds, hik] using hl
      rw [hR']
      simp at hlen ⊢
      omega
end
end Go.Abs
