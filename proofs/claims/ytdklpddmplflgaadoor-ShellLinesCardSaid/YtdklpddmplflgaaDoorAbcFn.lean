/- Statements, loops and functions, told as data; no theorem of a claim. -/
import Derived.Test.YtdklpddmplflgaaDoorAbcCode
set_option linter.unusedSimpArgs false
set_option linter.unusedVariables false
namespace Go.Abs

def CondK (t : Bool) (a b : Prop) : Prop := (t = true → a) ∧ (t = false → b)
def thenE (K : Env → Prop) (Q : Exit → Env → Prop) : Exit → Env → Prop
  | .normal, e => K e
  | x, e => Q x e
def blockE (id : Nat) (Q : Exit → Env → Prop) : Exit → Env → Prop
  | .exit id', e => if id' = id then Q .normal e else Q (.exit id') e
  | x, e => Q x e
abbrev EL := List (Nat × D)
def RoundK {T : Type} (ts os : T → EL) (I : T → Prop) (m : T → Nat) (s : T) (e : Env) : Prop := ∃ s', I s' ∧ LeL e (ts s') (os s') ∧ m s' < m s
def roundE {T : Type} (ts os : T → EL) (I : T → Prop) (m : T → Nat) (s : T) (Q : Exit → Env → Prop) : Exit → Env → Prop
  | .normal, e => RoundK ts os I m s e
  | x, e => Q x e
def LoopK (body : (Exit → Env → Prop) → Env → Prop) (Q : Exit → Env → Prop) (e : Env) : Prop :=
  ∃ (T : Type) (ts os : T → EL) (I : T → Prop) (m : T → Nat) (s0 : T), I s0 ∧ LeL e (ts s0) (os s0) ∧ ∀ s, I s → body (roundE ts os I m s Q) (mkE (ts s) (os s))
def WeakK (K : Env → Prop) (e : Env) : Prop := K e ∨ ∃ ts os, LeL e ts os ∧ K (mkE ts os)
def DrawK (np : Nat) (ops : Array Oper) : Prop := drawOk np ops = true
/-- may the code end at its end? -/
def falls : Code → Bool
  | .seq a b => falls a && falls b
  | .cond _ a b => falls a || falls b
  | .exit _ => false
  | .ret => false
  | _ => true
def isJoin : Code → Bool
  | .cond _ a b => falls a && falls b
  | .block _ (.cond _ a b) => falls a && falls b
  | .block _ (.loop _) => true
  | _ => false

def wpC (P : Program) (n np : Nat) : Code → (Exit → Env → Prop) → Env → Prop
  | .skip, Q, e => Q .normal e
  | .region _ ops draw, Q, e => if draw then DrawK np ops ∧ wpListD P n np ops.toList ops.toList e (Q .normal) else wpList P n ops.toList ops.toList e (Q .normal)
  | .seq a b, Q, e => wpC P n np a (thenE (if isJoin a then WeakK (wpC P n np b Q) else wpC P n np b Q) Q) e
  | .cond c a b, Q, e => match rd e c with
    | .bool t => CondK t (wpC P n np a Q e) (wpC P n np b Q e)
    | _ => False
  | .block id a, Q, e => wpC P n np a (blockE id Q) e
  | .loop a, Q, e => LoopK (wpC P n np a) Q e
  | .exit id, Q, e => Q (.exit id) e
  | .ret, Q, e => Q .ret e
  | .rangeFunc _ _ _ _, _, _ => False
  | .scope _, _, _ => False
  | .label _, _, _ => False
  | .goto _, _, _ => False
  | .refuse _, _, _ => False

section
variable {P : Program} {n np : Nat} {w0 w w' : World} {l0 : Nat → Option Nat} {G : Nat → Option (Nat × Nat)} {S0 : Nat → Option Value} {lev lev' own own' : Nat → Option Nat} {S S' : Nat → Option Value} {env env' : Env} {tm tm' : Nat → Value}

theorem wp_loop_s {c : Code} {Q : Exit → Act → World → Prop} {a : Act} {w : World} {S : Type} (I : S → Act → World → Prop) (m : S → Nat) (s0 : S) (h₀ : I s0 a w)
    (round : ∀ s a w, I s a w → c.wp P (Exit.then (fun a' w' => ∃ s', I s' a' w' ∧ m s' < m s) Q) a w) : (Code.loop c).wp P Q a w := by
  intro b k cs
  have key : ∀ n s a w, m s = n → I s a w →
      ∃ e a' w', Q e a' w' ∧ Arrives P (lone (b.at a (.code c :: .inLoop c :: k)) cs w) b k cs e a' w' := by
    intro n
    induction n using Nat.strongRecOn with
    | _ n ih =>
      intro s a w hn hI
      obtain ⟨e, a₁, w₁, hq, harr⟩ := round s a w hI b (.inLoop c :: k) cs
      cases e with
      | normal =>
        obtain ⟨s', hI₁, hlt⟩ := hq
        obtain ⟨e₂, a₂, w₂, hq₂, harr₂⟩ := ih (m s') (hn ▸ hlt) s' a₁ w₁ rfl hI₁
        exact ⟨e₂, a₂, w₂, hq₂, .of_steps (Steps.trans harr (.one step_inLoop)) harr₂⟩
      | exit id => exact ⟨_, a₁, w₁, hq, .pass (x := .inLoop c) rfl (fun _ _ => .inl (by simp)) harr⟩
      | goto l => exact ⟨_, a₁, w₁, hq, .pass (x := .inLoop c) rfl (fun _ _ => .inl (by simp)) harr⟩
      | ret => exact ⟨_, a₁, w₁, hq, .pass (x := .inLoop c) rfl (fun _ _ => .inl (by simp)) harr⟩
      | panic ch => exact ⟨_, a₁, w₁, hq, .pass (x := .inLoop c) rfl (fun _ _ => .inl (by simp)) harr⟩
      | outgrown => exact ⟨_, a₁, w₁, hq, .pass (x := .inLoop c) rfl (fun _ _ => .inl (by simp)) harr⟩
  obtain ⟨e, a', w', hq, harr⟩ := key _ s0 a w rfl h₀
  exact ⟨e, a', w', hq, .of_steps (.one step_loop) harr⟩

theorem wpC_sound (hm : P.follows .mixedOrders = true) : ∀ (c : Code) (Qa : Exit → Env → Prop) (Q : Exit → Act → World → Prop) (env : Env) lev own S w (a : Act), Inv w0 l0 G S0 w lev own S env (tmOf a.tmps) → a.tmps.size = n → a.defers = [] →
    (∀ x, Cont n w0 l0 G S0 (Qa x) (Q x)) → wpC P n np c Qa env → c.wp P Q a w := by
  intro c
  induction c with
  | skip => intro Qa Q env lev own S w a h hn hd hc hk; exact wp_skip (hc .normal _ _ _ _ _ a hn hd h hk)
  | region id ops draw =>
    intro Qa Q env lev own S w a h hn hd hc hk
    unfold wpC at hk
    cases draw with
    | false =>
      simp only [Bool.false_eq_true, if_false] at hk
      refine wp_region ?_
      have := wpList_sound (P := P) (ops := ops) (Q := Q) (hc .normal) ops.toList 0 rfl env lev own S w a h hn hd hk
      rw [← List.range_eq_range'] at this
      simpa using this
    | true =>
      simp only [if_true] at hk
      refine wp_region_any hm ?_
      have hR : (List.range ops.size).filter (fun i => !(Array.replicate ops.size false).getD i true) = List.range ops.size := by
        rw [List.filter_eq_self]
        intro i hi
        have := List.mem_range.1 hi
        simp [Array.getD_eq_getD_getElem?, Array.getElem?_replicate, this]
      refine wpAny_of (np := np) hk.1 (hc .normal) ops.size _ env lev own S _ a (by simp) (by intro k y _ hl; simp [Array.getD_eq_getD_getElem?, Array.getElem?_replicate] at hl; split at hl <;> simp at hl) (by rw [hR]; simp) h.drew hn hd ?_
      rw [hR]
      have := wpIdxD_range ops.toList 0 env (Qa .normal) rfl hk.2
      rw [← List.range_eq_range'] at this
      simpa using this
  | seq x y ihx ihy =>
    intro Qa Q env lev own S w a h hn hd hc hk
    refine wp_seq (ihx _ _ env lev own S w a h hn hd ?_ hk)
    intro e
    cases e <;> try exact hc _
    intro e' lev' own' S' w' a' hn' hd' hi hK
    simp only [thenE] at hK
    split at hK
    · rcases hK with hK | ⟨ts, os, hle, hK⟩
      · exact ihy _ _ e' lev' own' S' w' a' hi hn' hd' hc hK
      · obtain ⟨rh, hle⟩ := hle.le
        obtain ⟨own2, S2, hi2⟩ := hi.le hle
        exact ihy _ _ _ lev' own2 S2 w' a' hi2 hn' hd' hc hK
    · exact ihy _ _ e' lev' own' S' w' a' hi hn' hd' hc hK
  | cond c x y ihx ihy =>
    intro Qa Q env lev own S w a h hn hd hc hk
    unfold wpC at hk
    have hop := h.opd a rfl c
    cases hx : rd env c <;> rw [hx] at hk hop <;> try exact hk.elim
    rename_i t
    refine wp_cond_split hop.bool_inv ?_ ?_
    · intro ht; exact ihx _ _ env lev own S w a h hn hd hc (hk.1 ht)
    · intro ht; exact ihy _ _ env lev own S w a h hn hd hc (hk.2 ht)
  | block id x ih =>
    intro Qa Q env lev own S w a h hn hd hc hk
    refine wp_block (ih _ _ env lev own S w a h hn hd ?_ hk)
    intro e
    cases e <;> try exact hc _
    rename_i id'
    intro e' lev' own' S' w' a' hn' hd' hi hK
    simp only [Exit.inBlock, blockE] at hK ⊢
    split
    · rename_i hid; rw [if_pos hid] at hK; exact hc .normal e' lev' own' S' w' a' hn' hd' hi hK
    · rename_i hid; rw [if_neg hid] at hK; exact hc (.exit id') e' lev' own' S' w' a' hn' hd' hi hK
  | loop x ih =>
    intro Qa Q env lev own S w a h hn hd hc hk
    obtain ⟨T, ts, os, I, m, s0, hI, hle, hround⟩ := hk
    obtain ⟨rh, hle⟩ := hle.le
    obtain ⟨own1, S1, h1⟩ := h.le hle
    refine wp_loop_s (fun s a w => I s ∧ a.tmps.size = n ∧ a.defers = [] ∧ ∃ lev own S, Inv w0 l0 G S0 w lev own S (mkE (ts s) (os s)) (tmOf a.tmps)) m s0 ⟨hI, hn, hd, lev, own1, S1, h1⟩ ?_
    rintro s a w ⟨hs, hn, hd, lev, own, S, hi⟩
    refine ih _ _ _ lev own S w a hi hn hd ?_ (hround s hs)
    intro e
    cases e <;> try exact hc _
    intro e' lev' own' S' w' a' hn' hd' hi' hK
    obtain ⟨s', hs', hle', hlt⟩ := hK
    obtain ⟨rh', hle'⟩ := hle'.le
    obtain ⟨own2, S2, h2⟩ := hi'.le hle'
    exact ⟨s', ⟨hs', hn', hd', lev', own2, S2, h2⟩, hlt⟩
  | exit id => intro Qa Q env lev own S w a h hn hd hc hk; exact wp_exit (hc (.exit id) _ _ _ _ _ a hn hd h hk)
  | ret => intro Qa Q env lev own S w a h hn hd hc hk; exact wp_ret (hc .ret _ _ _ _ _ a hn hd h hk)
  | rangeFunc f ps x y ih1 ih2 => intro Qa Q env lev own S w a h hn hd hc hk; exact hk.elim
  | scope x ih => intro Qa Q env lev own S w a h hn hd hc hk; exact hk.elim
  | label l => intro Qa Q env lev own S w a h hn hd hc hk; exact hk.elim
  | goto l => intro Qa Q env lev own S w a h hn hd hc hk; exact hk.elim
  | refuse s => intro Qa Q env lev own S w a h hn hd hc hk; exact hk.elim

/-! ### functions -/
def tsL : Nat → List D → EL
  | _, [] => []
  | k, d :: ds => (k, d) :: tsL (k + 1) ds
def osL : Nat → List D → EL
  | _, [] => []
  | k, d :: ds => if isUndef d then osL (k + 1) ds else (k, d) :: osL (k + 1) ds
theorem tsL_look : ∀ (ds : List D) (k i : Nat), look (tsL k ds) i = if k ≤ i then ds.getD (i - k) .undef else .undef
  | [], k, i => by simp [tsL, look]
  | d :: ds, k, i => by
    simp only [tsL, look]
    rw [tsL_look ds (k + 1) i]
    by_cases h : i = k
    · subst h; simp
    · by_cases h2 : k ≤ i
      · have e1 : i - k = (i - (k + 1)) + 1 := by omega
        rw [if_neg h, if_pos (by omega), if_pos h2, e1]; simp
      · rw [if_neg h, if_neg (by omega), if_neg h2]
theorem osL_look : ∀ (ds : List D) (k i : Nat), look (osL k ds) i = if k ≤ i then ds.getD (i - k) .undef else .undef
  | [], k, i => by simp [osL, look]
  | d :: ds, k, i => by
    simp only [osL]
    have ih := osL_look ds (k + 1) i
    by_cases hu : isUndef d = true
    · rw [if_pos hu, ih]
      have := isUndef_iff.1 hu
      subst this
      by_cases h : i = k
      · subst h; rw [if_neg (by omega)]; simp
      · by_cases h2 : k ≤ i
        · have e1 : i - k = (i - (k + 1)) + 1 := by omega
          rw [if_pos (by omega), if_pos h2, e1]; simp
        · rw [if_neg (by omega), if_neg h2]
    · rw [if_neg hu]
      simp only [look]
      rw [ih]
      by_cases h : i = k
      · subst h; simp
      · by_cases h2 : k ≤ i
        · have e1 : i - k = (i - (k + 1)) + 1 := by omega
          rw [if_neg h, if_pos (by omega), if_pos h2, e1]; simp
        · rw [if_neg h, if_neg (by omega), if_neg h2]

def resV (P : Program) (e : Env) : ResultVar → D
  | .tmp t => e.t t
  | .cell a t => match layT P t with
    | some l => ldV e l (e.t a)
    | none => .undef
def resOk (P : Program) (e : Env) : ResultVar → Prop
  | .tmp _ => True
  | .cell a t => match layT P t with
    | some l => ldOk e l (e.t a)
    | none => False
def resD (P : Program) (e : Env) (rs : List ResultVar) : D :=
  match rs with
  | [r] => resV P e r
  | rs => .tup (rs.map (resV P e))
def resOkL (P : Program) (e : Env) : List ResultVar → Prop
  | [] => True
  | r :: rs => resOk P e r ∧ resOkL P e rs
def retEnv (v : D) (e : Env) : Env := ⟨fun j => if j = 0 then v else .undef, e.o⟩
def RetK (P : Program) (rs : List ResultVar) (m : Nat) (hs' : List D) (d : D) (e : Env) : Prop := resOkL P e rs ∧ Norm (resD P e rs) fun v => LeM m (retEnv v e) [(0, d)] (osL 0 hs')
def retE (P : Program) (rs : List ResultVar) (m : Nat) (hs' : List D) (d : D) : Exit → Env → Prop
  | .normal, e => RetK P rs m hs' d e
  | .ret, e => RetK P rs m hs' d e
  | _, _ => False

theorem res_one {tmps : Array Value} (h : Inv w0 l0 G S0 w lev own S env (tmOf tmps)) (r : ResultVar) (hr : resOk P env r) :
    ∃ v, (match r with | .tmp t => pure (tmps.getD t Go.undef) | .cell a t => do loadVar t (← asAddr (tmps.getD a Go.undef)) : Sem Value).run P w = .ok v w ∧ RepV (cx w lev S) v (resV P env r) := by
  cases r with
  | tmp t => exact ⟨tmps.getD t Go.undef, rfl, h.temps t⟩
  | cell a t =>
    simp only [resOk] at hr
    cases hl : layT P t with
    | none => rw [hl] at hr; exact hr.elim
    | some l =>
      rw [hl] at hr
      simp only at hr
      obtain ⟨u, hrun, hu⟩ := ld_own (P := P) h hl (h.temps a) hr
      have hptr : ∃ ad, tmOf tmps a = .pointer (some ad) := by
        have ht := h.temps a
        generalize tmOf tmps a = v at ht
        cases hx : env.t a <;> rw [hx] at hr ht <;> simp only [ldOk] at hr
        · obtain ⟨ad, hv, _⟩ := ht.eaddr_inv; exact ⟨ad, hv⟩
        · obtain ⟨ad, _, hv⟩ := ht.addr_inv; exact ⟨_, hv⟩
        · obtain ⟨ad, _, _, _, hv⟩ := ht.oaddr_inv; exact ⟨_, hv⟩
      obtain ⟨ad, hv⟩ := hptr
      refine ⟨u, ?_, by simp only [resV, hl]; exact hu⟩
      have hv' : tmps.getD a Go.undef = .pointer (some ad) := hv
      rw [hv] at hrun
      simp only [hv']
      simpa [Instr.loadAt, Sem.run_bind, asAddr, Instr.sureAddr, Sem.run, pure] using hrun

/-- what is returned, told by a property -/
def RetX (P : Program) (rs : List ResultVar) (m : Nat) (Φ : List D → D → Prop) (e : Env) : Prop := ∃ hs' d, Φ hs' d ∧ RetK P rs m hs' d e
def retX (P : Program) (rs : List ResultVar) (m : Nat) (Φ : List D → D → Prop) : Exit → Env → Prop
  | .normal, e => RetX P rs m Φ e
  | .ret, e => RetX P rs m Φ e
  | _, _ => False
theorem retE_retX {rs : List ResultVar} {m : Nat} {hs' : List D} {d : D} : ∀ (x : Exit) (e : Env), retE P rs m hs' d x e → retX P rs m (fun a b => a = hs' ∧ b = d) x e
  | .normal, _, h => ⟨hs', d, ⟨rfl, rfl⟩, h⟩
  | .ret, _, h => ⟨hs', d, ⟨rfl, rfl⟩, h⟩
  | .exit _, _, h => h
  | .goto _, _, h => h
  | .panic _, _, h => h
  | .outgrown, _, h => h
theorem SpecE.of_wp (hm : P.follows .mixedOrders = true) {f : FuncId} {fn : Func} {c : Code} (hf : P.funcs[f]? = some fn) (hb : fn.body = some c) (hname : (fn.name == "runtime.NumGoroutine") = false) {hs ds : List D} {Φ : List D → D → Prop} {Qr : Exit → Env → Prop} (hQ : ∀ x e, Qr x e → retX P fn.results.toList hs.length Φ x e)
    (hlen : ds.length ≤ fn.ntmps) (h16 : hs.length ≤ 16) (hw : wpC P fn.ntmps ds.length c Qr (mkE (tsL 0 ds) (osL 0 hs))) : SpecE P f hs ds Φ := by
  refine ⟨⟨fn, hf, by rw [hb]; rfl, hname⟩, ?_⟩
  intro w l0 G0 own0 S0 vs hT hl0 hG hsz hr hobj
  let tmps := vs ++ Array.replicate (fn.ntmps - vs.size) Go.undef
  have htm : ∀ i, tmOf tmps i = vs.getD i Go.undef := by
    intro i
    simp only [tmOf, tmps, Array.getD_eq_getD_getElem?, Array.getElem?_append]
    by_cases h : i < vs.size
    · simp [h]
    · simp [h, Array.getElem?_replicate]
      split <;> rfl
  have hinv : Inv w l0 G0 S0 w l0 own0 S0 (mkE (tsL 0 ds) (osL 0 hs)) (tmOf tmps) := by
    refine ⟨⟨rfl, hT⟩, rfl, rfl, Nat.le_refl _, fun _ _ _ => rfl, hG, hl0, fun _ _ _ => rfl, fun _ _ _ => rfl, ?_, ?_⟩
    · intro s
      show RepV _ _ (look (tsL 0 ds) s)
      rw [tsL_look, htm]
      simp only [Nat.zero_le, if_true, Nat.sub_zero]
      by_cases h : s < ds.length
      · have e : ds.getD s .undef = ds[s] := by simp [List.getD, h]
        have e2 : vs.getD s Go.undef = vs[s] := by simp [Array.getD, show s < vs.size by omega]
        rw [e, e2]
        exact hr s _ _ (by simp [show s < vs.size by omega]) (List.getElem?_eq_getElem h)
      · have e : ds.getD s .undef = .undef := by simp [List.getD, h]
        rw [e]
        exact .undef _
    · intro r
      show ObjAt _ _ _ _ _ _ r (look (osL 0 hs) r)
      rw [osL_look]
      simp only [Nat.zero_le, if_true, Nat.sub_zero]
      exact hobj r
  have htmn : tmps.size = fn.ntmps := by simp [tmps]; omega
  refine calls_of_wp hf hb ?_
  refine wpC_sound hm c Qr _ _ l0 own0 S0 w ⟨tmps, []⟩ hinv htmn rfl ?_ hw
  have fin : ∀ (e' : Env) lev' own' S' w' (a' : Act), a'.tmps.size = fn.ntmps → a'.defers = [] → Inv w l0 G0 S0 w' lev' own' S' e' (tmOf a'.tmps) → RetX P fn.results.toList hs.length Φ e' →
      a'.defers = [] ∧ ∃ v, (results fn a'.tmps).run P w' = .ok v w' ∧ ∃ v' hs' d, Φ hs' d ∧ Ending.returned v = .returned v' ∧ Out hs.length hs' w l0 G0 S0 w' v' d := by
    intro e' lev' own' S' w' a' hn' hd' hi ⟨hs', d, hΦ, hok, hle⟩
    refine ⟨hd', ?_⟩
    have hres : ∀ (rs : List ResultVar), resOkL P e' rs → ∀ acc : Array Value, ∃ us : List Value,
        (rs.foldlM (fun (acc : Array Value) r => do pure (acc.push (← (match r with | .tmp t => pure (a'.tmps.getD t Go.undef) | .cell a t => do loadVar t (← asAddr (a'.tmps.getD a Go.undef)) : Sem Value)))) acc : Sem (Array Value)).run P w' = .ok (acc ++ us.toArray) w' ∧
        us.length = rs.length ∧ ∀ (i : Nat) u r, us[i]? = some u → rs[i]? = some r → RepV (cx w' lev' S') u (resV P e' r) := by
      intro rs
      induction rs with
      | nil => intro _ acc; exact ⟨[], by simp [Sem.run, pure], rfl, by intro i u r h; simp at h⟩
      | cons r rs ih =>
        intro hok acc
        obtain ⟨v, hv, hrep⟩ := res_one hi r hok.1
        obtain ⟨us, h1, h2, h3⟩ := ih hok.2 (acc.push v)
        refine ⟨v :: us, ?_, by simp [h2], ?_⟩
        · rw [List.foldlM_cons]
          simp only [Sem.run_bind, hv, Result.andThen_ok]
          have : (pure (acc.push v) : Sem (Array Value)).run P w' = .ok (acc.push v) w' := rfl
          rw [this]
          simp only [Result.andThen_ok]
          rw [h1]
          simp
        · intro i u r' hu hr'
          cases i with
          | zero => simp at hu hr'; subst hu; subst hr'; exact hrep
          | succ i => simp at hu hr'; exact h3 i u r' hu hr'
    obtain ⟨us, hrun, hul, hrep⟩ := hres fn.results.toList hok #[]
    have hrun' : (results fn a'.tmps).run P w' = .ok (if h : us.toArray.size = 1 then us.toArray[0] else .tuple us.toArray) w' := by
      unfold results
      rw [Array.mapM_eq_foldlM]
      rw [← Array.foldlM_toList]
      simp only [Sem.run_bind]
      have : (fn.results.toList.foldlM (fun (acc : Array Value) r => do pure (acc.push (← (match r with | .tmp t => pure (a'.tmps.getD t Go.undef) | .cell a t => do loadVar t (← asAddr (a'.tmps.getD a Go.undef)) : Sem Value)))) #[] : Sem (Array Value)).run P w' = .ok (#[] ++ us.toArray) w' := hrun
      simp only [Array.empty_append] at this
      have h2 := this
      simp only [bind_pure_comp] at h2 ⊢
      exact congrArg (fun r => Result.andThen r fun (a : Array Value) w' => Sem.run P (pure (if h : a.size = 1 then a[0] else Value.tuple a)) w') h2
    refine ⟨_, hrun', _, hs', d, hΦ, rfl, ?_⟩
    have hrd : RepV (cx w' lev' S') (if h : us.toArray.size = 1 then us.toArray[0] else .tuple us.toArray) (resD P e' fn.results.toList) := by
      rcases Classical.em (∃ r, fn.results.toList = [r]) with ⟨r, hrs⟩ | hne
      · rw [hrs] at hul hrep ⊢
        obtain ⟨u, rfl⟩ := List.length_eq_one_iff.1 hul
        simpa [resD] using hrep 0 u r rfl rfl
      · have hrd : resD P e' fn.results.toList = .tup (fn.results.toList.map (resV P e')) := by
          unfold resD
          split
          · rename_i r hrs; exact (hne ⟨r, hrs⟩).elim
          · rfl
        rw [hrd]
        have hsz : us.toArray.size ≠ 1 := by
          intro h
          have h1 : fn.results.toList.length = 1 := by rw [← hul]; simpa using h
          match hx : fn.results.toList, h1 with
          | [r], _ => exact hne ⟨r, hx⟩
        rw [dif_neg hsz]
        refine .tup _ _ (by simp [hul]) ?_
        intro i v x hv hx
        simp only [List.getElem?_map] at hx
        cases hri : fn.results.toList[i]? with
        | none => rw [hri] at hx; cases hx
        | some r =>
          rw [hri] at hx
          cases hx
          exact hrep i v r (by simpa using hv) hri
    generalize (if h : us.toArray.size = 1 then us.toArray[0] else .tuple us.toArray) = rv at hrd
    have hret : Inv w l0 G0 S0 w' lev' own' S' (retEnv (resD P e' fn.results.toList) e') (fun j => if j = 0 then rv else Go.undef) := by
      refine ⟨hi.os, hi.tape, hi.output, hi.size, hi.old, hi.part, hi.priv, hi.levOld, hi.ent, ?_, hi.objs⟩
      intro s
      simp only [retEnv]
      split
      · exact hrd
      · exact .undef _
    obtain ⟨rh, hle'⟩ := LeM.le hle
    obtain ⟨own2, S2, h2ent, h2temps, h2objs⟩ := hret.le_m h16 hle'
    refine ⟨hi.os.1, hi.tape, hi.output, hi.size, fun b hb hg => hi.old b hb hg, hi.part, lev', own2, S2, hi.priv, fun b hb hg => hi.levOld b hb hg, ?_, ?_, ?_⟩
    · have := h2temps 0
      simpa [mkE, look] using this
    · intro r
      have := h2objs r
      have e : (mkE [(0, d)] (osL 0 hs')).o r = hs'.getD r .undef := by
        show look (osL 0 hs') r = _
        rw [osL_look]; simp
      rw [e] at this
      exact this
    · intro i hi' hne
      refine h2ent i (by omega) ?_
      show look (osL 0 hs') i ≠ .undef
      rw [osL_look]; simpa using hne
  intro x
  cases x with
  | normal => intro e' lev' own' S' w' a' hn' hd' hi hK; exact fin e' lev' own' S' w' a' hn' hd' hi (hQ _ _ hK)
  | ret => intro e' lev' own' S' w' a' hn' hd' hi hK; exact fin e' lev' own' S' w' a' hn' hd' hi (hQ _ _ hK)
  | _ => intro e' lev' own' S' w' a' hn' hd' hi hK; exact (hQ _ _ hK).elim
theorem SpecE.spec {f : FuncId} {hs ds hs' : List D} {d : D} (h : SpecE P f hs ds fun a b => a = hs' ∧ b = d) : Spec P f hs ds hs' d := by
  refine ⟨h.1, ?_⟩
  intro w l0 G0 own0 S0 vs h1 h2 h3 h4 h5 h6
  refine (h.2 w l0 G0 own0 S0 vs h1 h2 h3 h4 h5 h6).mono ?_
  rintro e w' ⟨v, _, _, ⟨rfl, rfl⟩, he, ho⟩
  exact ⟨v, he, ho⟩
theorem Spec.toE {f : FuncId} {hs ds hs' : List D} {d : D} {Φ : List D → D → Prop} (h : Spec P f hs ds hs' d) (hΦ : Φ hs' d) : SpecE P f hs ds Φ := by
  refine ⟨h.1, ?_⟩
  intro w l0 G0 own0 S0 vs h1 h2 h3 h4 h5 h6
  refine (h.2 w l0 G0 own0 S0 vs h1 h2 h3 h4 h5 h6).mono ?_
  rintro e w' ⟨v, he, ho⟩
  exact ⟨v, hs', d, hΦ, he, ho⟩
theorem Spec.of_wp (hm : P.follows .mixedOrders = true) {f : FuncId} {fn : Func} {c : Code} (hf : P.funcs[f]? = some fn) (hb : fn.body = some c) (hname : (fn.name == "runtime.NumGoroutine") = false) {hs ds hs' : List D} {d : D}
    (hlen : ds.length ≤ fn.ntmps) (h16 : hs.length ≤ 16) (hw : wpC P fn.ntmps ds.length c (retE P fn.results.toList hs.length hs' d) (mkE (tsL 0 ds) (osL 0 hs))) : Spec P f hs ds hs' d :=
  SpecE.spec (SpecE.of_wp hm hf hb hname retE_retX hlen h16 hw)
theorem Spec.go (hm : P.follows .mixedOrders = true) {f : FuncId} {fn : Func} {c : Code} {rs : List ResultVar} {n np : Nat} (hf : P.funcs[f]? = some fn) (hb : fn.body = some c) (hr : fn.results.toList = rs) (hn : fn.ntmps = n) (hname : (fn.name == "runtime.NumGoroutine") = false) {hs ds hs' : List D} {d : D}
    (hnp : ds.length = np) (hlen : np ≤ n) (h16 : hs.length ≤ 16) (hw : wpC P n np c (retE P rs hs.length hs' d) (mkE (tsL 0 ds) (osL 0 hs))) : Abs.Spec P f hs ds hs' d := by
  subst hr; subst hn; subst hnp
  exact Spec.of_wp hm hf hb hname hlen h16 hw
/-- the same, with what reduces left to be found -/
theorem sgo (n np : Nat) (rs : List ResultVar) (hm : P.follows .mixedOrders = true) {f : FuncId} {fn : Func} {c : Code} (hf : P.funcs[f]? = some fn) {hs ds hs' : List D} {d : D} (hw : wpC P n np c (retE P rs hs.length hs' d) (mkE (tsL 0 ds) (osL 0 hs)))
    (hb : fn.body = some c := by exact rfl) (hr : fn.results.toList = rs := by exact rfl) (hn : fn.ntmps = n := by exact rfl) (hname : (fn.name == "runtime.NumGoroutine") = false := by exact rfl) (hnp : ds.length = np := by exact rfl) (hlen : np ≤ n := by simp) (h16 : hs.length ≤ 16 := by simp) : Abs.Spec P f hs ds hs' d :=
  Spec.go hm hf hb hr hn hname hnp hlen h16 hw
theorem sgoX (n np : Nat) (rs : List ResultVar) (hm : P.follows .mixedOrders = true) {f : FuncId} {fn : Func} {c : Code} (hf : P.funcs[f]? = some fn) {hs ds : List D} {Φ : List D → D → Prop} (hw : wpC P n np c (retX P rs hs.length Φ) (mkE (tsL 0 ds) (osL 0 hs)))
    (hb : fn.body = some c := by exact rfl) (hr : fn.results.toList = rs := by exact rfl) (hn : fn.ntmps = n := by exact rfl) (hname : (fn.name == "runtime.NumGoroutine") = false := by exact rfl) (hnp : ds.length = np := by exact rfl) (hlen : np ≤ n := by simp) (h16 : hs.length ≤ 16 := by simp) : SpecE P f hs ds Φ := by
  subst hr; subst hn; subst hnp
  exact SpecE.of_wp hm hf hb hname (fun _ _ h => h) hlen h16 hw
end
end Go.Abs
