/- What a call gives, and what its caller knows then; no theorem of a claim. -/
import Derived.Test.YtdklpddmplflgaaDoorAbcCall
set_option linter.unusedSimpArgs false
set_option linter.unusedVariables false
namespace Go.Abs

/-! ### nothing that stays -/
def noPermA : D → Prop
  | .sl _ rows => rows = []
  | .eaddr _ | .fn _ _ | .agg _ | .tup _ | .box _ | .own _ _ => False
  | _ => True
def noPermV : D → Prop
  | .agg cs => ∀ c ∈ cs, noPermA c
  | d => noPermA d
def noPermS : D → Prop
  | .tup ds => ∀ d ∈ ds, noPermV d
  | d => noPermV d
def noPermO : D → Prop
  | .box cs => ∀ c ∈ cs, noPermA c
  | .own _ rows => ∀ r ∈ rows, ∀ d ∈ r, noPermA d
  | .undef => True
  | _ => False
theorem noPermA.rep {V V' : Addr → Option Value} {S : Nat → Option Value} {v : Value} {d : D} (h : noPermA d) (r : RepV ⟨V, S⟩ v d) : RepV ⟨V', S⟩ v d := by
  cases r with
  | sl z a cap rows f hl hz hk hc hr =>
    have : rows = [] := h
    subst this
    exact .sl z a cap [] f hl hz hk (by simp) (by simp)
  | slnil z => exact .slnil z
  | undef v => exact .undef v
  | bool b => exact .bool b
  | int k n => exact .int k n
  | str s => exact .str s
  | nil => exact .nil
  | emp a => exact .emp a
  | nilfn => exact .nilfn
  | nilif => exact .nilif
  | someif t v => exact .someif t v
  | nilp => exact .nilp
  | ref r a len cap hh => exact .ref r a len cap hh
  | addr r off a hh => exact .addr r off a hh
  | oaddr r z i k a len cap hh => exact .oaddr r z i k a len cap hh
  | osub r z lo len a a' L cap cap' hh h1 h2 h3 => exact .osub r z lo len a a' L cap cap' hh h1 h2 h3
  | bsub r off z len cap a a' hh h1 h2 => exact .bsub r off z len cap a a' hh h1 h2
  | _ => exact h.elim
theorem noPermV.rep {V V' : Addr → Option Value} {S : Nat → Option Value} {v : Value} {d : D} (h : noPermV d) (r : RepV ⟨V, S⟩ v d) : RepV ⟨V', S⟩ v d := by
  by_cases ha : ∃ cs, d = .agg cs
  · obtain ⟨cs, rfl⟩ := ha
    obtain ⟨vs, rfl, hs, hr⟩ := r.agg_inv
    exact .agg vs cs hs fun i v d hi hd => noPermA.rep (h d (List.mem_of_getElem? hd)) (hr i v d hi hd)
  · have : noPermA d := by cases d <;> first | exact h | exact (ha ⟨_, rfl⟩).elim
    exact this.rep r
theorem noPermS.rep {V V' : Addr → Option Value} {S : Nat → Option Value} {v : Value} {d : D} (h : noPermS d) (r : RepV ⟨V, S⟩ v d) : RepV ⟨V', S⟩ v d := by
  by_cases ha : ∃ cs, d = .tup cs
  · obtain ⟨cs, rfl⟩ := ha
    obtain ⟨vs, rfl, hs, hr⟩ := r.tup_inv
    exact .tup vs cs hs fun i v d hi hd => noPermV.rep (h d (List.mem_of_getElem? hd)) (hr i v d hi hd)
  · have : noPermV d := by cases d <;> first | exact h | exact (ha ⟨_, rfl⟩).elim
    exact this.rep r

/-! ### the environment behind a call -/
def killEL : List Nat → Env → Env
  | [], e => e
  | r :: rs, e => killEL rs (killE r e)
def isUndef : D → Bool
  | .undef => true
  | _ => false
def deads : List Nat → List D → List Nat
  | g :: gs, h :: hs => if isUndef h then g :: deads gs hs else deads gs hs
  | _, _ => []
def newsN (d : Nat) : Nat → Nat → List Nat
  | _, 0 => []
  | k, m + 1 => nm d k :: newsN d (k + 1) m
def putO (f : Nat → Option Nat) : List Nat → List D → Env → Env
  | r :: rs, h :: hs, e => putO f rs hs (updO e r (h.ren f))
  | _, _, e => e
def at? (ns : List Nat) (i : Nat) : Option Nat := ns[i]?
def callNs (d : Nat) (gs : List Nat) (hs' : List D) : List Nat := gs ++ newsN d 0 (hs'.length - gs.length)
def postE (e : Env) (d : Nat) (gs : List Nat) (hs' : List D) (dv : D) : Env :=
  updT (putO (at? (callNs d gs hs')) (callNs d gs hs') hs' (killEL (deads gs hs') e)) d (dv.ren (at? (callNs d gs hs')))

structure Out (m : Nat) (hs' : List D) (w : World) (l0 : Nat → Option Nat) (G0 : Nat → Option (Nat × Nat)) (S0 : Nat → Option Value) (w' : World) (v : Value) (d : D) : Prop where
  os : w'.os = w.os
  tape : w'.tape = w.tape
  output : w'.output = w.output
  size : w.heap.size ≤ w'.heap.size
  old : ∀ b, b < w.heap.size → G0 b = none → w'.heap[b]? = w.heap[b]?
  part : ∀ b lo hi, G0 b = some (lo, hi) → PartAt w w' b lo hi
  rep : ∃ lev own S, (∀ b m, lev b = some m → b < w'.heap.size) ∧ (∀ b, b < w.heap.size → G0 b = none → lev b = l0 b) ∧ RepV (cx w' lev S) v d ∧
    (∀ r, ObjAt w.heap.size G0 w' lev own S r (hs'.getD r .undef)) ∧ ∀ i, i < m → hs'.getD i .undef ≠ .undef → S i = S0 i

theorem newsN_get (d : Nat) : ∀ (m k i : Nat), i < m → (newsN d k m)[i]? = some (nm d (k + i))
  | 0, _, _, h => by omega
  | m + 1, k, 0, h => by simp [newsN]
  | m + 1, k, i + 1, h => by
    simp only [newsN, List.getElem?_cons_succ]
    rw [newsN_get d m (k + 1) i (by omega)]
    congr 2; omega
theorem newsN_len (d : Nat) : ∀ (m k : Nat), (newsN d k m).length = m
  | 0, _ => rfl
  | m + 1, k => by simp [newsN, newsN_len d m]
theorem newsN_mem {d : Nat} : ∀ {m k s : Nat}, s ∈ newsN d k m → ∃ j, k ≤ j ∧ j < k + m ∧ s = nm d j
  | 0, _, _, h => by simp [newsN] at h
  | m + 1, k, s, h => by
    simp only [newsN, List.mem_cons] at h
    rcases h with rfl | h
    · exact ⟨k, Nat.le_refl _, by omega, rfl⟩
    · obtain ⟨j, h1, h2, h3⟩ := newsN_mem h
      exact ⟨j, by omega, by omega, h3⟩
theorem nm_inj {d i j : Nat} (h : nm d i = nm d j) : i = j := by unfold nm at h; omega
theorem newsN_nodup (d : Nat) : ∀ (m k : Nat), (newsN d k m).Nodup
  | 0, _ => by simp [newsN]
  | m + 1, k => by
    simp only [newsN, List.nodup_cons]
    refine ⟨?_, newsN_nodup d m (k + 1)⟩
    intro h
    obtain ⟨j, h1, _, h3⟩ := newsN_mem h
    have := nm_inj h3
    omega

section
variable {P : Program} {w0 w w' : World} {l0 : Nat → Option Nat} {G : Nat → Option (Nat × Nat)} {S0 : Nat → Option Value} {lev lev' own own' : Nat → Option Nat} {S S' : Nat → Option Value} {env env' : Env} {tm tm' : Nat → Value} {B : Nat} {gs : List Nat} {bw : Bool}

theorem Inv.killL : ∀ (ks : List Nat) {S : Nat → Option Value} {env : Env}, Inv w0 l0 G S0 w lev own S env tm → ∃ Sk, Inv w0 l0 G S0 w lev own Sk (killEL ks env) tm ∧ ∀ s u, Sk s = some u → S s = some u ∧ s ∉ ks
  | [], S, env, h => ⟨S, h, fun s u hu => ⟨hu, by simp⟩⟩
  | k :: ks, S, env, h => by
    obtain ⟨Sk, h1, h2⟩ := Inv.killL ks (h.kill k)
    refine ⟨Sk, h1, fun s u hu => ?_⟩
    obtain ⟨h3, h4⟩ := h2 s u hu
    by_cases e : s = k
    · subst e; rw [setO_same] at h3; cases h3
    · rw [setO_ne _ _ e] at h3
      exact ⟨h3, by simp [e, h4]⟩
theorem killEL_undef : ∀ (ks : List Nat) {e : Env} {r : Nat}, e.o r = .undef → (killEL ks e).o r = .undef
  | [], _, _, h => h
  | k :: ks, e, r, h => by
    refine killEL_undef ks ?_
    simp only [killE]
    split
    · rfl
    · rw [h]; rfl
theorem killEL_mem : ∀ (ks : List Nat) {e : Env} {r : Nat}, r ∈ ks → (killEL ks e).o r = .undef
  | [], _, _, h => by cases h
  | k :: ks, e, r, h => by
    rcases List.mem_cons.1 h with rfl | h
    · refine killEL_undef ks ?_; simp [killE]
    · exact killEL_mem ks h
theorem putO_get (f : Nat → Option Nat) : ∀ (ns : List Nat) (hs : List D) (e : Env) (r : Nat), ns.Nodup → ns.length = hs.length → (putO f ns hs e).o r = match idx ns r with
    | some i => (hs.getD i .undef).ren f
    | none => e.o r
  | [], [], e, r, _, _ => rfl
  | [], _ :: _, _, _, _, h => by simp at h
  | _ :: _, [], _, _, _, h => by simp at h
  | n :: ns, h :: hs, e, r, hn, hl => by
    have hn' := List.nodup_cons.1 hn
    rw [putO, putO_get f ns hs _ r hn'.2 (by simpa using hl)]
    by_cases e' : n = r
    · subst e'
      have : idx ns n = none := by
        cases hx : idx ns n with
        | none => rfl
        | some i => exact (hn'.1 (List.mem_of_getElem? (idx_some hx))).elim
      rw [this]
      simp [idx, updO]
    · simp only [idx, if_neg e']
      cases hx : idx ns r with
      | none => simp [updO, Ne.symm e']
      | some i => simp
theorem putO_t (f : Nat → Option Nat) : ∀ (ns : List Nat) (hs : List D) (e : Env), (putO f ns hs e).t = e.t
  | [], _, _ => rfl
  | _ :: _, [], _ => rfl
  | n :: ns, h :: hs, e => by rw [putO, putO_t f ns hs]; rfl
theorem deads_get : ∀ (gs : List Nat) (hs : List D) (i r : Nat), gs.Nodup → gs.length ≤ hs.length → gs[i]? = some r → (r ∈ deads gs hs ↔ hs.getD i .undef = .undef)
  | [], _, i, r, _, _, h => by simp at h
  | g :: gs, [], _, _, _, hl, _ => by simp at hl
  | g :: gs, h :: hs, i, r, hn, hl, hi => by
    have hn' := List.nodup_cons.1 hn
    have hsub : ∀ (gs : List Nat) (hs : List D) (x : Nat), x ∈ deads gs hs → x ∈ gs := by
      intro gs
      induction gs with
      | nil => intro hs x hx; cases hs <;> simp [deads] at hx
      | cons g gs ih =>
        intro hs x hx
        cases hs with
        | nil => simp [deads] at hx
        | cons h hs =>
          simp only [deads] at hx
          split at hx
          · rcases List.mem_cons.1 hx with rfl | hx
            · simp
            · exact List.mem_cons_of_mem _ (ih hs x hx)
          · exact List.mem_cons_of_mem _ (ih hs x hx)
    cases i with
    | zero =>
      simp at hi
      subst hi
      simp only [deads, List.getD_cons_zero]
      cases h <;> simp [isUndef] <;> exact fun hx => hn'.1 (hsub _ _ _ hx)
    | succ i =>
      simp only [List.getElem?_cons_succ] at hi
      have hne : r ≠ g := by rintro rfl; exact hn'.1 (List.mem_of_getElem? hi)
      have ih := deads_get gs hs i r hn'.2 (by simpa using hl) hi
      simp only [deads, List.getD_cons_succ]
      split
      · simp [hne, ih]
      · exact ih
theorem deads_mem {gs : List Nat} {hs : List D} {r : Nat} (h : r ∈ deads gs hs) : r ∈ gs := by
  induction gs generalizing hs with
  | nil => cases hs <;> simp [deads] at h
  | cons g gs ih =>
    cases hs with
    | nil => simp [deads] at h
    | cons x hs =>
      simp only [deads] at h
      split at h
      · rcases List.mem_cons.1 h with rfl | h
        · simp
        · exact List.mem_cons_of_mem _ (ih h)
      · exact List.mem_cons_of_mem _ (ih h)

theorem PartAt.mono {b lo hi lo' hi' : Nat} (h : PartAt w w' b lo hi) (h1 : lo' ≤ lo) (h2 : hi ≤ hi') : PartAt w w' b lo' hi' := by
  obtain ⟨c0, c, E, a1, a2, a3, a4⟩ := h
  exact ⟨c0, c, E, a1, a2, a3, fun j hj => a4 j (by omega)⟩

theorem Inv.call (h : Inv w0 l0 G S0 w lev own S env tm) {d : Nat} {hs' : List D} {v : Value} {dv : D} (hn : gs.Nodup) (hlive : ∀ r ∈ gs, env.o r ≠ .undef) (hfresh : ∀ r ∈ newsN d 0 (hs'.length - gs.length), env.o r = .undef)
    (hlen : gs.length ≤ hs'.length) (hperm : bw = true → noPermS dv ∧ ∀ h ∈ hs', noPermO h) (ho : Out gs.length hs' w (l0of bw gs lev own) (G0of gs S env.o) (S0of gs S) w' v dv) :
    ∃ lev' own' S', Inv w0 l0 G S0 w' lev' own' S' (postE env d gs hs' dv) (updv tm d v) := by
  obtain ⟨hos, htape, hout, hsize, hold, hpart, lev1, own1, S1, hlp, hlo, hrep, hobj, hsurv⟩ := ho
  obtain ⟨Sk, hk, hSk⟩ := h.killL (deads gs hs')
  -- the names
  have hnd : (callNs d gs hs').Nodup := by
    unfold callNs
    refine List.nodup_append.2 ⟨hn, newsN_nodup _ _ _, ?_⟩
    rintro a ha b hb rfl
    exact hlive a ha (hfresh a hb)
  have hnl : (callNs d gs hs').length = hs'.length := by simp [callNs, newsN_len]; omega
  -- the given blocks
  have hG : ∀ b lo hi, G0of gs S env.o b = some (lo, hi) → ∃ r ∈ gs, own b = some r ∧ lev b = some 0 ∧ InG G w0.heap.size b lo hi ∧ b < w.heap.size := by
    intro b lo hi hb
    obtain ⟨r, hr, u, hu, hbk⟩ := G0_some hb
    obtain ⟨e1, e2, e3, c, E, e4⟩ := (h.objs r).blk hu hbk
    exact ⟨r, hr, e1, e2, e3, lt_of_block e4⟩
  let ns := callNs d gs hs'
  let old : Nat → Prop := fun b => b < w.heap.size ∧ G0of gs S env.o b = none
  let lev' : Nat → Option Nat := fun b => if b < w.heap.size ∧ G0of gs S env.o b = none then lev b else lev1 b
  let own' : Nat → Option Nat := fun b => if b < w.heap.size ∧ G0of gs S env.o b = none then own b else (own1 b).bind (at? ns)
  let S' : Nat → Option Value := fun r => match idx ns r with
    | some i => S1 i
    | none => Sk r
  have hvl : VisLe w lev w' lev' := by
    intro a u hu
    have hlt := World.block_lt_of_cell? _ _ (vis_cell hu)
    have hg : G0of gs S env.o a.block = none := by
      cases e : G0of gs S env.o a.block with
      | none => rfl
      | some x =>
        obtain ⟨lo, hi⟩ := x
        obtain ⟨r, hr, e1, e2, _⟩ := hG _ _ _ e
        unfold vis at hu
        rw [e2] at hu
        simp at hu
    unfold vis at hu ⊢
    simp only [lev', hlt, hg, and_self, if_true]
    rw [World.cell?_of_block (w := w) (hold _ hlt hg)]
    exact hu
  have hSl : ∀ s u, Sk s = some u → S' s = some u := by
    intro s u hu
    obtain ⟨h1, h2⟩ := hSk s u hu
    simp only [S']
    cases hx : idx ns s with
    | none => exact hu
    | some i =>
      have hget : ns[i]? = some s := idx_some hx
      have hlt : i < gs.length := by
        rcases Nat.lt_or_ge i gs.length with hlt | hge
        · exact hlt
        · exfalso
          simp only [ns, callNs] at hget
          rw [List.getElem?_append_right hge] at hget
          have := hfresh s (List.mem_of_getElem? hget)
          rw [h.fresh this] at h1
          cases h1
      have hgs : gs[i]? = some s := by
        simp only [ns, callNs] at hget
        rwa [List.getElem?_append_left hlt] at hget
      have hnu : hs'.getD i .undef ≠ .undef := fun hu' => h2 ((deads_get gs hs' i s hn hlen hgs).2 hu')
      simp only
      rw [hsurv i hlt hnu]
      unfold S0of
      rw [hgs]
      exact h1
  -- what the call gives, in the caller's names
  have hren : ∀ (u : Value) (x : D), RepV (cx w' lev' S1) u x → RepV (cx w' lev' S') u (x.ren (at? ns)) := by
    intro u x hx
    refine RepV.ren (C := cx w' lev' S1) (C' := cx w' lev' S') (fun _ _ h => h) hx ?_
    intro s _ t ht y hy
    have : idx ns t = some s := idx_of hnd ht
    simp only [cx, S', this]
    exact hy
  have hV : bw = false → VisLe w' lev1 w' lev' := by
    intro hb a u hu
    have : lev' a.block = lev1 a.block := by
      simp only [lev']
      split
      · rename_i hc
        rw [hlo _ hc.1 hc.2]
        unfold l0of
        split
        · split <;> simp [hb]
        · rfl
      · rfl
    unfold vis at hu ⊢
    rw [this]; exact hu
  have hdv : RepV (cx w' lev' S1) v dv := by
    cases hb : bw with
    | false => exact hrep.vkeep (hV hb) fun _ _ _ h => h
    | true => exact (hperm hb).1.rep hrep
  have hcell : ∀ (x : D), (∃ hh ∈ hs', (∃ cs, hh = .box cs ∧ x ∈ cs) ∨ ∃ z rows row, hh = .own z rows ∧ row ∈ rows ∧ x ∈ row) → ∀ u, RepV (cx w' lev1 S1) u x → RepV (cx w' lev' S1) u x := by
    rintro x ⟨hh, hm, hx⟩ u hu
    cases hb : bw with
    | false => exact hu.vkeep (hV hb) fun _ _ _ h => h
    | true =>
      have hp := (hperm hb).2 hh hm
      rcases hx with ⟨cs, rfl, hx⟩ | ⟨z, rows, row, rfl, hr, hx⟩
      · exact (hp x hx).rep hu
      · exact (hp row hr x hx).rep hu
  have hin : ∀ b lo hi, InG (G0of gs S env.o) w.heap.size b lo hi → InG G w0.heap.size b lo hi ∧ ¬ old b := by
    intro b lo hi hg
    rcases hg with hg | ⟨l, m, hg, h1, h2⟩
    · exact ⟨.inl (Nat.le_trans h.size hg), fun hc => by have := hc.1; omega⟩
    · obtain ⟨r, hr, e1, e2, e3, e4⟩ := hG _ _ _ hg
      exact ⟨e3.mono h1 h2, fun hc => by have := hc.2; rw [hg] at this; cases this⟩
  refine ⟨lev', own', S', ⟨hos.trans h.os.1, h.os.2⟩, htape.trans h.tape, hout.trans h.output, Nat.le_trans h.size hsize, ?_, ?_, ?_, ?_, ?_, ?_, ?_⟩
  · intro b hb hg
    have hlt : b < w.heap.size := Nat.lt_of_lt_of_le hb h.size
    have : G0of gs S env.o b = none := by
      cases e : G0of gs S env.o b with
      | none => rfl
      | some x =>
        obtain ⟨lo, hi⟩ := x
        obtain ⟨r, hr, e1, e2, e3, e4⟩ := hG _ _ _ e
        rcases e3 with e3 | ⟨l, m, e3, _⟩
        · omega
        · rw [hg] at e3; cases e3
    exact (hold b hlt this).trans (h.old b hb hg)
  · intro b lo hi hg
    have hp := h.part b lo hi hg
    refine hp.trans ?_
    cases e : G0of gs S env.o b with
    | none =>
      refine hp.of_same (hold b ?_ e)
      obtain ⟨_, _, _, _, hb, _⟩ := hp
      exact lt_of_block hb
    | some x =>
      obtain ⟨l, m⟩ := x
      obtain ⟨r, hr, e1, e2, e3, e4⟩ := hG _ _ _ e
      rcases e3 with e3 | ⟨l', m', e3, h1, h2⟩
      · obtain ⟨c0, _, _, hc0, _⟩ := hp
        have := lt_of_block hc0
        omega
      · rw [hg] at e3
        cases e3
        exact (hpart b l m e).mono h1 h2
  · intro b m hb
    simp only [lev'] at hb
    split at hb
    · have := h.priv b m hb; omega
    · exact hlp b m hb
  · intro b hb hg
    have hlt : b < w.heap.size := Nat.lt_of_lt_of_le hb h.size
    have : G0of gs S env.o b = none := by
      cases e : G0of gs S env.o b with
      | none => rfl
      | some x =>
        obtain ⟨lo, hi⟩ := x
        obtain ⟨r, hr, e1, e2, e3, e4⟩ := hG _ _ _ e
        rcases e3 with e3 | ⟨l, m, e3, _⟩
        · omega
        · rw [hg] at e3; cases e3
    simp only [lev', hlt, this, and_self, if_true]
    exact h.levOld b hb hg
  · intro i hi he
    have he' : (putO (at? ns) ns hs' (killEL (deads gs hs') env)).o i ≠ .undef := he
    rw [putO_get _ _ _ _ _ hnd hnl] at he'
    simp only [S']
    cases hx : idx ns i with
    | none =>
      rw [hx] at he'
      exact hk.ent i hi he'
    | some j =>
      rw [hx] at he'
      have hget : ns[j]? = some i := idx_some hx
      have hlt : j < gs.length := by
        rcases Nat.lt_or_ge j gs.length with hlt | hge
        · exact hlt
        · exfalso
          simp only [ns, callNs] at hget
          rw [List.getElem?_append_right hge] at hget
          obtain ⟨_, _, _, e⟩ := newsN_mem (List.mem_of_getElem? hget)
          have := nm_ge d
          rw [e] at hi
          have := nm_ge d ‹_›
          omega
      have hgs : gs[j]? = some i := by
        simp only [ns, callNs] at hget
        rwa [List.getElem?_append_left hlt] at hget
      have hnu : hs'.getD j .undef ≠ .undef := by
        intro e
        simp only [e, D.ren] at he'
        exact he' rfl
      simp only
      rw [hsurv j hlt hnu]
      unfold S0of
      rw [hgs]
      exact h.ent i hi (hlive i (List.mem_of_getElem? hgs))
  · intro s
    by_cases e : s = d
    · subst e
      simp only [postE, updT_same]
      simpa [updv] using hren v dv hdv
    · simp only [postE]
      rw [updT_ne e, putO_t]
      have : updv tm d v s = tm s := by simp [updv, e]
      rw [this]
      exact (hk.temps s).vkeep hvl fun s _ u hu => hSl s u hu
  · intro r
    show ObjAt _ _ _ _ _ _ r ((putO (at? ns) ns hs' (killEL (deads gs hs') env)).o r)
    rw [putO_get _ _ _ _ _ hnd hnl]
    cases hx : idx ns r with
    | none =>
      have hor := hk.objs r
      have hSr : S' r = Sk r := by simp only [S', hx]
      have hrg : r ∉ gs := by
        intro hr
        have : r ∈ ns := List.mem_append_left _ hr
        obtain ⟨i, hi⟩ := idx_mem this
        rw [hx] at hi; cases hi
      refine hor.keep hvl (fun s _ u hu => hSl s u hu) (fun hd => by rw [hd] at hor; rw [hSr]; exact hor) ?_
      intro b hb hl
      have hlt := h.priv b 0 hl
      have hg : G0of gs S env.o b = none := by
        cases e : G0of gs S env.o b with
        | none => rfl
        | some x =>
          obtain ⟨lo, hi⟩ := x
          obtain ⟨r', hr', e1, _⟩ := hG _ _ _ e
          rw [hb] at e1
          cases e1
          exact (hrg hr').elim
      refine ⟨hold b hlt hg, ?_, ?_⟩
      · simp only [lev', hlt, hg, and_self, if_true]
      · simp only [own', hlt, hg, and_self, if_true]
    | some i =>
      have hget : ns[i]? = some r := idx_some hx
      have hSr : S' r = S1 i := by simp only [S', hx]
      have hob := hobj i
      have hmem : hs'.getD i .undef ≠ .undef → hs'.getD i .undef ∈ hs' := by
        intro hne
        rcases Nat.lt_or_ge i hs'.length with hlt | hge
        · rw [show hs'.getD i .undef = hs'[i] by simp [List.getD, hlt]]; exact List.getElem_mem hlt
        · rw [show hs'.getD i .undef = .undef by simp [List.getD, hge]] at hne; exact (hne rfl).elim
      have hbo : ∀ b lo hi, InG (G0of gs S env.o) w.heap.size b lo hi → own1 b = some i → lev' b = lev1 b ∧ own' b = some r ∧ InG G w0.heap.size b lo hi := by
        intro b lo hi hg hb
        obtain ⟨h1, h2⟩ := hin b lo hi hg
        refine ⟨if_neg h2, ?_, h1⟩
        simp only [own']
        rw [if_neg h2, hb]
        exact hget
      show ObjAt _ _ _ _ _ _ r ((hs'.getD i .undef).ren (at? ns))
      generalize hgd : hs'.getD i .undef = x at hob hmem ⊢
      cases x <;> try exact hob.elim
      · simp only [D.ren]
        show S' r = none
        rw [hSr]; exact hob
      · rename_i z rows
        have hm := hmem (by simp)
        simp only [D.ren]
        rcases hob with ⟨a, h1, h2⟩ | ⟨b, c, E, cap, h1, h2, h3, h4, h5, h6, h7, h8, h9, h10⟩
        · exact .inl ⟨a, hSr.trans h1, h2⟩
        · obtain ⟨g1, g2, g3⟩ := hbo b _ _ h9 h8
          refine .inr ⟨b, c, E, cap, hSr.trans h1, h2, h3, h4, h5, h6, g1.trans h7, g2, g3, ?_⟩
          intro i' j row y hi hj
          obtain ⟨u, hu, hru⟩ := h10 i' j row y hi hj
          have hpm := h6 row (List.mem_of_getElem? hi) y (List.mem_of_getElem? hj)
          have := hcell y ⟨_, hm, .inr ⟨z, rows, row, rfl, List.mem_of_getElem? hi, List.mem_of_getElem? hj⟩⟩ u hru
          exact ⟨u, hu, this.vkeep (.refl _ _) (by rw [hpm.2]; simp)⟩
      · rename_i cs
        have hm := hmem (by simp)
        simp only [D.ren]
        obtain ⟨b, o, c, E, h1, h2, h3, h4, h5, h6, h7⟩ := hob
        obtain ⟨g1, g2, g3⟩ := hbo b _ _ h6 h5
        rw [renL_map]
        refine ⟨b, o, c, E, hSr.trans h1, h2, by simpa using h3, g1.trans h4, g2, by simpa using g3, ?_⟩
        intro j u e hu he
        simp only [List.getElem?_map] at he
        cases hy : cs[j]? with
        | none => rw [hy] at he; cases he
        | some y =>
          rw [hy] at he
          cases he
          exact hren u y (hcell y ⟨_, hm, .inl ⟨cs, rfl, List.mem_of_getElem? hy⟩⟩ u (h7 j u y hu hy))
end
end Go.Abs
