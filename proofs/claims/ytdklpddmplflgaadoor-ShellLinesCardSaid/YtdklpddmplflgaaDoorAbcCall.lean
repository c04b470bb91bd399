/- What a call is given, lent, and gives back; no theorem of a claim. -/
import Derived.Test.YtdklpddmplflgaaDoorAbcPure2
set_option linter.unusedSimpArgs false
set_option linter.unusedVariables false
namespace Go.Abs

/-- the name of the k-th object that slot d makes -/
def nm (d k : Nat) : Nat := 16 * (d + 1) + k
theorem nm_ge (d k : Nat) : 16 ≤ nm d k := by unfold nm; omega

def idx : List Nat → Nat → Option Nat
  | [], _ => none
  | g :: gs, r => if g = r then some 0 else (idx gs r).map (· + 1)
theorem idx_some : ∀ {gs : List Nat} {r i : Nat}, idx gs r = some i → gs[i]? = some r
  | [], r, i, h => by simp [idx] at h
  | g :: gs, r, i, h => by
    unfold idx at h
    split at h
    · cases h; simp_all
    · cases e : idx gs r with
      | none => rw [e] at h; cases h
      | some j => rw [e] at h; cases h; simpa using idx_some e
theorem idx_of : ∀ {gs : List Nat} {r i : Nat}, gs.Nodup → gs[i]? = some r → idx gs r = some i
  | [], r, i, _, h => by simp at h
  | g :: gs, r, 0, hn, h => by simp at h; subst h; simp [idx]
  | g :: gs, r, i + 1, hn, h => by
    simp at h
    have hn' := List.nodup_cons.1 hn
    have : g ≠ r := by rintro rfl; exact hn'.1 (List.mem_of_getElem? h)
    simp [idx, this, idx_of hn'.2 h]
theorem idx_mem {gs : List Nat} {r : Nat} : r ∈ gs → ∃ i, idx gs r = some i := by
  induction gs with
  | nil => intro h; cases h
  | cons g gs ih =>
    intro h
    unfold idx
    by_cases e : g = r
    · simp [e]
    · simp only [e, if_false]
      rcases List.mem_cons.1 h with h | h
      · exact (e h.symm).elim
      · obtain ⟨i, hi⟩ := ih h
        exact ⟨i + 1, by simp [hi]⟩

mutual
/-- other names for the objects; what has none is forgotten -/
def D.ren (f : Nat → Option Nat) : D → D
  | .fn g cs => .fn g (D.renL f cs)
  | .agg cs => .agg (D.renL f cs)
  | .tup cs => .tup (D.renL f cs)
  | .box cs => .box (D.renL f cs)
  | .ref s => match f s with | some r => .ref r | none => .undef
  | .addr s o => match f s with | some r => .addr r o | none => .undef
  | .oaddr s z i k => match f s with | some r => .oaddr r z i k | none => .undef
  | .osub s z l n => match f s with | some r => .osub r z l n | none => .undef
  | .bsub s o z n c => match f s with | some r => .bsub r o z n c | none => .undef
  | d => d
def D.renL (f : Nat → Option Nat) : List D → List D
  | [] => []
  | d :: l => d.ren f :: D.renL f l
end
theorem renL_map (f : Nat → Option Nat) : ∀ cs : List D, D.renL f cs = cs.map (D.ren f)
  | [] => rfl
  | d :: l => by rw [D.renL, renL_map f l]; rfl
theorem RepV.ren {C C' : Cx} {f : Nat → Option Nat} (hV : ∀ a v, C.V a = some v → C'.V a = some v) {v : Value} {d : D} (r : RepV C v d) (hS : ∀ s ∈ d.names, ∀ t, f s = some t → ∀ u, C.S s = some u → C'.S t = some u) : RepV C' v (d.ren f) := by
  have lst : ∀ (vs : Array Value) (ds : List D), vs.size = ds.length → (∀ (i : Nat) v d, vs[i]? = some v → ds[i]? = some d → (∀ s ∈ d.names, ∀ t, f s = some t → ∀ u, C.S s = some u → C'.S t = some u) → RepV C' v (d.ren f)) →
      (∀ s ∈ D.namesL ds, ∀ t, f s = some t → ∀ u, C.S s = some u → C'.S t = some u) → vs.size = (D.renL f ds).length ∧ ∀ (i : Nat) v d, vs[i]? = some v → (D.renL f ds)[i]? = some d → RepV C' v d := by
    intro vs ds hl ih hS
    rw [renL_map]
    refine ⟨by simpa using hl, ?_⟩
    intro i v d hi hd
    simp only [List.getElem?_map] at hd
    cases e : ds[i]? with
    | none => rw [e] at hd; cases hd
    | some x => rw [e] at hd; cases hd; exact ih i v x hi e fun s hs => hS s (namesL_mem.2 ⟨x, List.mem_of_getElem? e, hs⟩)
  induction r with
  | fn g vs ds hl h ih => obtain ⟨h1, h2⟩ := lst vs ds hl ih (fun s hs => hS s (by simp only [D.names]; exact hs)); simp only [D.ren]; exact .fn g vs _ h1 h2
  | agg vs ds hl _ ih => obtain ⟨h1, h2⟩ := lst vs ds hl ih (fun s hs => hS s (by simp only [D.names]; exact hs)); simp only [D.ren]; exact .agg vs _ h1 h2
  | tup vs ds hl _ ih => obtain ⟨h1, h2⟩ := lst vs ds hl ih (fun s hs => hS s (by simp only [D.names]; exact hs)); simp only [D.ren]; exact .tup vs _ h1 h2
  | undef v => exact .undef v
  | bool b => exact .bool b
  | int k n => exact .int k n
  | str s => exact .str s
  | nil => exact .nil
  | emp a => exact .emp a
  | nilfn => exact .nilfn
  | nilif => exact .nilif
  | someif t v => exact .someif t v
  | nilp => exact .nilp
  | slnil z => exact .slnil z
  | sl z a cap rows g hl hz hk hc h1 _ =>
    exact RepV.keep (d := .sl z rows) hV (.sl z a cap rows g hl hz hk hc h1) (fun s hs => by simp [D.names] at hs)
  | eaddr a cs g hn hc h1 _ => exact RepV.keep (d := .eaddr cs) hV (.eaddr a cs g hn hc h1) (fun s hs => by simp [D.names] at hs)
  | ref s a len cap h =>
    simp only [D.ren]
    split
    · rename_i t e; exact .ref t a len cap (hS s (by simp [D.names]) t e _ h)
    · exact .undef _
  | addr s off a h =>
    simp only [D.ren]
    split
    · rename_i t e; exact .addr t off a (hS s (by simp [D.names]) t e _ h)
    · exact .undef _
  | oaddr s z i k a len cap h =>
    simp only [D.ren]
    split
    · rename_i t e; exact .oaddr t z i k a len cap (hS s (by simp [D.names]) t e _ h)
    · exact .undef _
  | osub s z lo len a a' L cap cap' h h1 h2 h3 =>
    simp only [D.ren]
    split
    · rename_i t e; exact .osub t z lo len a a' L cap cap' (hS s (by simp [D.names]) t e _ h) h1 h2 h3
    · exact .undef _
  | bsub s off z len cap a a' h h1 h2 =>
    simp only [D.ren]
    split
    · rename_i t e; exact .bsub t off z len cap a a' (hS s (by simp [D.names]) t e _ h) h1 h2
    · exact .undef _

/-! ### what is lent -/
def borSl : D → D
  | .own z rows => .sl z rows
  | _ => .undef
def borEa (z i k : Nat) : D → D
  | .own z' rows => if z' = z ∧ i < rows.length then .eaddr ((rows.getD i []).drop k) else .undef
  | _ => .undef
def borSub (z lo len : Nat) : D → D
  | .own z' rows => if z' = z ∧ lo + len ≤ rows.length then .sl z ((rows.drop lo).take len) else .undef
  | _ => .undef
def permB : D → Bool
  | .undef | .agg _ | .tup _ | .box _ | .own _ _ => false
  | d => d.names.isEmpty
def borBs (off z len : Nat) : D → D
  | .box cs => if ((cs.drop off).take (len * z)).all permB && decide (off + len * z ≤ cs.length) then .sl z (rowsOf z len (cs.drop off)) else .undef
  | _ => .undef
def borBox (f : D → D) (off : Nat) : D → D
  | .box cs => .eaddr ((cs.drop off).map f)
  | _ => .undef
def hideIf (b : Bool) (d : D) : D := if b then .undef else d
def plain0 (d : D) : D := if d.names.isEmpty then d else .undef
def bor (o : Nat → D) (x : List Nat) : Nat → D → D
  | 0, d => plain0 d
  | k + 1, .ref r => hideIf (x.contains r) (borSl (o r))
  | k + 1, .addr r off => hideIf (x.contains r) (borBox (bor o x k) off (o r))
  | k + 1, .oaddr r z i j => hideIf (x.contains r) (borEa z i j (o r))
  | k + 1, .osub r z lo len => hideIf (x.contains r) (borSub z lo len (o r))
  | k + 1, .bsub r off z len _ => hideIf (x.contains r) (borBs off z len (o r))
  | k + 1, .fn f cs => .fn f (cs.map (bor o x k))
  | k + 1, .agg cs => .agg (cs.map (bor o x k))
  | k + 1, .tup cs => .tup (cs.map (bor o x k))
  | k + 1, .box cs => .undef
  | _ + 1, d => d
def give (i : Option Nat) (f : Nat → D) (d : D) : D :=
  match i with
  | some i => f i
  | none => d
def conv (bw : Bool) (gs : List Nat) (o : Nat → D) : Nat → D → D
  | 0, d => plain0 d
  | k + 1, .ref r => give (idx gs r) .ref (hideIf (!bw) (bor o gs k (.ref r)))
  | k + 1, .addr r off => give (idx gs r) (fun i => .addr i off) (hideIf (!bw) (bor o gs k (.addr r off)))
  | k + 1, .oaddr r z i j => give (idx gs r) (fun x => .oaddr x z i j) (hideIf (!bw) (bor o gs k (.oaddr r z i j)))
  | k + 1, .osub r z lo len => give (idx gs r) (fun x => .osub x z lo len) (hideIf (!bw) (bor o gs k (.osub r z lo len)))
  | k + 1, .bsub r off z len cap => give (idx gs r) (fun x => .bsub x off z len cap) (hideIf (!bw) (bor o gs k (.bsub r off z len cap)))
  | k + 1, .fn f cs => .fn f (cs.map (conv bw gs o k))
  | k + 1, .agg cs => .agg (cs.map (conv bw gs o k))
  | k + 1, .tup cs => .tup (cs.map (conv bw gs o k))
  | k + 1, .box cs => .undef
  | _ + 1, d => d
def convO (bw : Bool) (gs : List Nat) (o : Nat → D) (k : Nat) : D → D
  | .box cs => .box (cs.map (conv bw gs o k))
  | .own z rows => .own z rows
  | _ => .undef

theorem plain0_names (d : D) : (plain0 d).names = [] := by
  unfold plain0
  split
  · rename_i h; simpa using h
  · rfl
theorem namesL_map {f : D → D} (h : ∀ d, (f d).names = []) (cs : List D) : D.namesL (cs.map f) = [] := by
  induction cs with
  | nil => rfl
  | cons c cs ih => simp [D.namesL, h, ih]
theorem hideIf_names {b : Bool} {d : D} (h : d.names = []) : (hideIf b d).names = [] := by unfold hideIf; split; rfl; exact h
theorem bor_names (o : Nat → D) (x : List Nat) : ∀ (k : Nat) (d : D), (bor o x k d).names = []
  | 0, d => plain0_names d
  | k + 1, d => by
    have ih := bor_names o x k
    cases d <;> simp only [bor] <;> (try rfl) <;> (try exact namesL_map ih _)
    · refine hideIf_names ?_; unfold borSl; split <;> rfl
    · refine hideIf_names ?_; unfold borBox; split <;> rfl
    · refine hideIf_names ?_; unfold borEa; split <;> (try split) <;> rfl
    · refine hideIf_names ?_; unfold borSub; split <;> (try split) <;> rfl
    · refine hideIf_names ?_; unfold borBs; split <;> (try split) <;> rfl

/-! ### the blocks that are given -/
def blkOf : Value → D → Option (Nat × Nat × Nat)
  | .pointer (some a), .box cs => some (a.block, a.off, a.off + cs.length)
  | .slice (some a) _ cap, .own z _ => if cap = 0 then none else some (a.block, 0, cap * z)
  | _, _ => none
def G0of (gs : List Nat) (S : Nat → Option Value) (o : Nat → D) (b : Nat) : Option (Nat × Nat) :=
  gs.findSome? fun r => match (S r).bind fun v => blkOf v (o r) with
    | some x => if x.1 = b then some x.2 else none
    | none => none
def l0of (bw : Bool) (gs : List Nat) (lev own : Nat → Option Nat) (b : Nat) : Option Nat :=
  match own b with
  | some r => if gs.contains r then lev b else if bw then none else lev b
  | none => lev b
def S0of (gs : List Nat) (S : Nat → Option Value) (i : Nat) : Option Value := (gs[i]?).bind S
def own0of (gs : List Nat) (own : Nat → Option Nat) (b : Nat) : Option Nat := (own b).bind (idx gs)

section
variable {P : Program} {w0 w w' : World} {l0 : Nat → Option Nat} {G : Nat → Option (Nat × Nat)} {S0 : Nat → Option Value} {lev lev' own own' : Nat → Option Nat} {S S' : Nat → Option Value} {env env' : Env} {tm tm' : Nat → Value} {B : Nat} {gs : List Nat} {bw : Bool}

theorem ObjAt.blk {r : Nat} {d : D} (h : ObjAt B G w lev own S r d) {v : Value} (hS : S r = some v) {b lo hi : Nat} (hb : blkOf v d = some (b, lo, hi)) :
    own b = some r ∧ lev b = some 0 ∧ InG G B b lo hi ∧ ∃ (c : Array Value) (E : TypeId), w.heap[b]? = some (.cells c E (0, 0)) := by
  cases d <;> try exact h.elim
  case undef => cases v <;> simp [blkOf] at hb
  case box cs =>
    obtain ⟨b', o, c, E, h1, h2, h3, h4, h5, h6, h7⟩ := h
    rw [h1] at hS
    cases hS
    simp only [blkOf, Option.some.injEq, Prod.mk.injEq] at hb
    obtain ⟨rfl, rfl, rfl⟩ := hb
    exact ⟨h5, h4, h6, c, E, h2⟩
  case own z rows =>
    rcases h with ⟨a, h1, h2⟩ | ⟨b', c, E, cap, h1, h2, h3, h4, h5, h6, h7, h8, h9, h10⟩
    · rw [h1] at hS
      cases hS
      cases a <;> simp [blkOf] at hb
    · rw [h1] at hS
      cases hS
      simp only [blkOf] at hb
      split at hb
      · cases hb
      · simp only [Option.some.injEq, Prod.mk.injEq] at hb
        obtain ⟨rfl, rfl, rfl⟩ := hb
        rw [h3] at h9
        exact ⟨h8, h7, h9, c, E, h2⟩
theorem G0_some {o : Nat → D} {b lo hi : Nat} (h : G0of gs S o b = some (lo, hi)) : ∃ r ∈ gs, ∃ v, S r = some v ∧ blkOf v (o r) = some (b, lo, hi) := by
  unfold G0of at h
  obtain ⟨r, hr, hx⟩ := List.exists_of_findSome?_eq_some h
  refine ⟨r, hr, ?_⟩
  cases hS : S r with
  | none => rw [hS] at hx; cases hx
  | some v =>
    rw [hS] at hx
    simp only [Option.bind_some] at hx
    cases hb : blkOf v (o r) with
    | none => rw [hb] at hx; cases hx
    | some x =>
      rw [hb] at hx
      simp only at hx
      split at hx
      · rename_i e
        simp only [Option.some.injEq] at hx
        refine ⟨v, rfl, ?_⟩
        rw [hb, ← e, ← hx]
      · cases hx
theorem G0_of (h : Inv w0 l0 G S0 w lev own S env tm) {r : Nat} (hr : r ∈ gs) {v : Value} (hS : S r = some v) {b lo hi : Nat} (hb : blkOf v (env.o r) = some (b, lo, hi)) : G0of gs S env.o b = some (lo, hi) := by
  have hne : (G0of gs S env.o b).isSome = true := by
    unfold G0of
    rw [List.findSome?_isSome_iff]
    exact ⟨r, hr, by simp [hS, hb]⟩
  obtain ⟨⟨lo', hi'⟩, hx⟩ := Option.isSome_iff_exists.1 hne
  obtain ⟨r', hr', v', hS', hb'⟩ := G0_some hx
  have e1 := ((h.objs r).blk hS hb).1
  have e2 := ((h.objs r').blk hS' hb').1
  rw [e1] at e2
  cases e2
  rw [hS] at hS'
  cases hS'
  rw [hb] at hb'
  cases hb'
  exact hx

theorem l0of_or (b : Nat) : l0of bw gs lev own b = lev b ∨ l0of bw gs lev own b = none := by
  unfold l0of
  split
  · split
    · exact .inl rfl
    · split
      · exact .inr rfl
      · exact .inl rfl
  · exact .inl rfl
theorem visLe_l0 : VisLe w lev w (l0of bw gs lev own) := by
  intro a u hu
  have hc := vis_cell hu
  unfold vis at hu ⊢
  rcases l0of_or (bw := bw) (gs := gs) (lev := lev) (own := own) a.block with h | h
  · rw [h]; exact hu
  · rw [h]; exact hc
theorem vis_bor {b i : Nat} {r : Nat} (ho : own b = some r) (hg : gs.contains r = false) {u : Value} (hc : w.cell? ⟨b, i, none⟩ = some u) : vis w (l0of true gs lev own) ⟨b, i, none⟩ = some u := by
  unfold vis l0of
  simp only [ho, hg, if_true, Bool.false_eq_true, if_false]
  exact hc

theorem permOk_of {d : D} (h : permB d = true) : permOk d := by
  cases d <;> simp only [permB] at h <;> first | (cases h; done) | exact ⟨trivial, by simpa using h⟩

theorem rowsOf_len (z : Nat) : ∀ (n : Nat) (cs : List D), (rowsOf z n cs).length = n
  | 0, _ => rfl
  | n + 1, cs => by simp [rowsOf, rowsOf_len z n]
theorem rowsOf_at (z : Nat) : ∀ (n : Nat) (cs : List D) (i : Nat) (r : List D), (rowsOf z n cs)[i]? = some r → r = (cs.drop (i * z)).take z
  | 0, _, _, _, h => by simp [rowsOf] at h
  | n + 1, cs, 0, r, h => by simp [rowsOf] at h; simp [h]
  | n + 1, cs, i + 1, r, h => by
    simp only [rowsOf, List.getElem?_cons_succ] at h
    have := rowsOf_at z n _ i r h
    rw [this, List.drop_drop, Nat.succ_mul, Nat.add_comm]

theorem bor_rep (h : Inv w0 l0 G S0 w lev own S env tm) (S' : Nat → Option Value) : ∀ (k : Nat) (d : D) (v : Value), RepV (cx w lev S) v d → RepV (cx w (l0of true gs lev own) S') v (bor env.o gs k d)
  | 0, d, v, hr => by
    simp only [bor, plain0]
    split
    · rename_i hn
      have hn' : d.names = [] := by simpa using hn
      exact hr.vkeep visLe_l0 (by rw [hn']; simp)
    · exact .undef _
  | k + 1, d, v, hr => by
    have ih := bor_rep h S' k
    have keep0 : d.names = [] → RepV (cx w (l0of true gs lev own) S') v d := fun hn => hr.vkeep visLe_l0 (by rw [hn]; simp)
    have lst : ∀ (vs : Array Value) (ds : List D), vs.size = ds.length → (∀ (i : Nat) v d, vs[i]? = some v → ds[i]? = some d → RepV (cx w lev S) v d) →
        vs.size = (ds.map (bor env.o gs k)).length ∧ ∀ (i : Nat) v d, vs[i]? = some v → (ds.map (bor env.o gs k))[i]? = some d → RepV (cx w (l0of true gs lev own) S') v d := by
      intro vs ds hl hh
      refine ⟨by simpa using hl, ?_⟩
      intro i v d hi hd
      simp only [List.getElem?_map] at hd
      cases e : ds[i]? with
      | none => rw [e] at hd; cases hd
      | some x => rw [e] at hd; cases hd; exact ih x v (hh i v x hi e)
    cases d <;> simp only [bor] <;> (try exact keep0 rfl) <;> (try (cases hr; done))
    · obtain ⟨vs, rfl, hs, hv⟩ := hr.fn_inv; obtain ⟨h1, h2⟩ := lst vs _ hs hv; exact .fn _ vs _ h1 h2
    · obtain ⟨vs, rfl, hs, hv⟩ := hr.agg_inv; obtain ⟨h1, h2⟩ := lst vs _ hs hv; exact .agg vs _ h1 h2
    · obtain ⟨vs, rfl, hs, hv⟩ := hr.tup_inv; obtain ⟨h1, h2⟩ := lst vs _ hs hv; exact .tup vs _ h1 h2
    · rename_i r
      unfold hideIf
      split
      · exact .undef _
      · rename_i hg
        have hg' : gs.contains r = false := by simpa using hg
        obtain ⟨hS, a, len, cap, rfl⟩ := hr.ref_inv
        have ho := h.objs r
        simp only [cx] at hS
        cases hd : env.o r <;> rw [hd] at ho <;> simp only [borSl] <;> (try exact .undef _)
        rename_i z rows
        rcases ho with ⟨a', h1, rfl⟩ | ⟨b, c, E, cap', h1, h2, h3, h4, h5, h6, h7, h8, h9, h10⟩
        · rw [hS] at h1
          cases h1
          cases a with
          | none => exact .slnil _
          | some ad => exact repV_sl (rows := []) (by simp) (by simp) (by simp) (by simp)
        · rw [hS] at h1
          cases h1
          refine repV_sl h4 h5 h6 ?_
          intro i j row x hi hj
          obtain ⟨u, hu, hru⟩ := h10 i j row x hi hj
          refine ⟨u, ?_, hru.vkeep visLe_l0 (by rw [(h6 row (List.mem_of_getElem? hi) x (List.mem_of_getElem? hj)).2]; simp)⟩
          rw [add_off, Nat.zero_add]
          exact vis_bor h8 hg' (by rw [cell_at w b _ h2]; exact hu)
    · rename_i r off
      unfold hideIf
      split
      · exact .undef _
      · rename_i hg
        have hg' : gs.contains r = false := by simpa using hg
        obtain ⟨a, hS, rfl⟩ := hr.addr_inv
        have ho := h.objs r
        simp only [cx] at hS
        cases hd : env.o r <;> rw [hd] at ho <;> simp only [borBox] <;> (try exact .undef _)
        rename_i cs
        obtain ⟨b, o, c, E, h1, h2, h3, h4, h5, h6, h7⟩ := ho
        rw [hS] at h1
        cases h1
        refine repV_eaddr (by intro d hd'; obtain ⟨x, _, rfl⟩ := List.mem_map.1 hd'; exact bor_names _ _ _ _) ?_
        intro j x hj
        simp only [List.getElem?_map, List.getElem?_drop] at hj
        cases e : cs[off + j]? with
        | none => rw [e] at hj; cases hj
        | some y =>
          rw [e] at hj
          cases hj
          have hlt : o + (off + j) < c.size := by have := (List.getElem?_eq_some_iff.1 e).1; omega
          refine ⟨c[o + (off + j)], ?_, ih y _ (h7 (off + j) _ y (by simp [hlt]) e)⟩
          rw [add_add, add_off]
          exact vis_bor h5 hg' (by rw [cell_at w b _ h2]; simp [hlt])
    · rename_i r z i j
      unfold hideIf
      split
      · exact .undef _
      · rename_i hg
        have hg' : gs.contains r = false := by simpa using hg
        obtain ⟨a, len, cap, hS, rfl⟩ := hr.oaddr_inv
        have ho := h.objs r
        simp only [cx] at hS
        cases hd : env.o r <;> rw [hd] at ho <;> simp only [borEa] <;> (try exact .undef _)
        rename_i z' rows
        split
        · rename_i hz
          obtain ⟨rfl, hi⟩ := hz
          rcases ho with ⟨a', h1, rfl⟩ | ⟨b, c, E, cap', h1, h2, h3, h4, h5, h6, h7, h8, h9, h10⟩
          · simp at hi
          · rw [hS] at h1
            cases h1
            have hrow : rows.getD i [] = rows[i] := by simp [List.getD, hi]
            rw [hrow]
            refine repV_eaddr (fun x hx => (h6 _ (List.getElem_mem hi) x (List.mem_of_mem_drop hx)).2) ?_
            intro m x hm
            rw [List.getElem?_drop] at hm
            obtain ⟨u, hu, hru⟩ := h10 i (j + m) rows[i] x (List.getElem?_eq_getElem hi) hm
            refine ⟨u, ?_, hru.vkeep visLe_l0 (by rw [(h6 _ (List.getElem_mem hi) x (List.mem_of_getElem? hm)).2]; simp)⟩
            rw [add_add, add_off]
            refine vis_bor h8 hg' ?_
            rw [cell_at w b _ h2, ← hu]
            congr 1; omega
        · exact .undef _
    · rename_i r z lo len
      unfold hideIf
      split
      · exact .undef _
      · rename_i hg
        have hg' : gs.contains r = false := by simpa using hg
        obtain ⟨a, a', L, cap, cap', hS, rfl, q1, q2, q3⟩ := hr.osub_inv
        have ho := h.objs r
        simp only [cx] at hS
        cases hd : env.o r <;> rw [hd] at ho <;> simp only [borSub] <;> (try exact .undef _)
        rename_i z' rows
        split
        · rename_i hz
          obtain ⟨rfl, hlen⟩ := hz
          have hl : ((rows.drop lo).take len).length = len := by simp; omega
          by_cases h0 : len = 0
          · subst h0
            have e0 : (rows.drop lo).take 0 = [] := by simp
            rw [e0]
            cases a' with
            | none => rw [q3 rfl]; exact .slnil _
            | some ad => exact repV_sl (rows := []) (by simp) (by simp) (by simp) (by simp)
          obtain ⟨b0, rfl, rfl⟩ := q1 h0
          rcases ho with ⟨a', h1, rfl⟩ | ⟨b, c, E, cap2, h1, h2, h3, h4, h5, h6, h7, h8, h9, h10⟩
          · simp at hlen; omega
          · rw [hS] at h1
            cases h1
            have := repV_sl (V := cx w (l0of true gs lev own) S') (z := z') (rows := (rows.drop lo).take len) (a := (⟨b, 0, none⟩ : Addr).add (lo * z')) (cap := cap') (by rw [hl]; exact q2)
              (fun r hr => h5 r (List.mem_of_mem_drop (List.mem_of_mem_take hr))) (fun r hr => h6 r (List.mem_of_mem_drop (List.mem_of_mem_take hr))) (by
                intro i j row x hi hj
                have hil : i < len := by have := (List.getElem?_eq_some_iff.1 hi).1; rw [hl] at this; exact this
                rw [List.getElem?_take_of_lt hil, List.getElem?_drop] at hi
                obtain ⟨u, hu, hru⟩ := h10 (lo + i) j row x hi hj
                refine ⟨u, ?_, hru.vkeep visLe_l0 (by rw [(h6 _ (List.mem_of_getElem? hi) x (List.mem_of_getElem? hj)).2]; simp)⟩
                rw [add_add, add_off]
                refine vis_bor h8 hg' ?_
                rw [cell_at w b _ h2, ← hu]
                congr 1; rw [Nat.add_mul]; omega)
            rw [hl] at this
            exact this
        · exact .undef _
    · rename_i r off z len bcap
      unfold hideIf
      split
      · exact .undef _
      · rename_i hg
        have hg' : gs.contains r = false := by simpa using hg
        obtain ⟨a, a', cap', hS, rfl, q1, q2, q3⟩ := hr.bsub_inv
        have ho := h.objs r
        simp only [cx] at hS
        cases hd : env.o r <;> rw [hd] at ho <;> simp only [borBs] <;> (try exact .undef _)
        rename_i cs
        split
        · rename_i hz
          simp only [Bool.and_eq_true, decide_eq_true_eq, List.all_eq_true] at hz
          obtain ⟨hp, hle⟩ := hz
          by_cases h0 : len = 0
          · subst h0
            simp only [rowsOf]
            cases a' with
            | none => rw [q3.1 rfl]; exact .slnil _
            | some ad => exact repV_sl (rows := []) (by simp) (by simp) (by simp) (by simp)
          have ha := q1 h0
          subst ha
          obtain ⟨b, o, c, E, h1, h2, h3, h4, h5, h6, h7⟩ := ho
          rw [hS] at h1
          cases h1
          have hat : ∀ (i : Nat) row, (rowsOf z len (cs.drop off))[i]? = some row → i < len ∧ row = ((cs.drop off).drop (i * z)).take z := by
            intro i row hi
            have := (List.getElem?_eq_some_iff.1 hi).1
            rw [rowsOf_len] at this
            exact ⟨this, rowsOf_at _ _ _ _ _ hi⟩
          have hsub : ∀ i, i < len → ∀ x ∈ ((cs.drop off).drop (i * z)).take z, x ∈ (cs.drop off).take (len * z) := by
            intro i hi x hx
            obtain ⟨m, hm⟩ := List.mem_iff_getElem?.1 hx
            have hmz : m < z := by have := (List.getElem?_eq_some_iff.1 hm).1; simp at this; omega
            rw [List.getElem?_take_of_lt hmz, List.getElem?_drop] at hm
            refine List.mem_of_getElem? (i := i * z + m) ?_
            rw [List.getElem?_take_of_lt (idx_lt hmz hi)]
            exact hm
          have := repV_sl (V := cx w (l0of true gs lev own) S') (z := z) (rows := rowsOf z len (cs.drop off)) (a := (⟨b, o, none⟩ : Addr).add off) (cap := cap') (by rw [rowsOf_len]; exact q2)
            (by
              intro row hrow
              obtain ⟨i, hi⟩ := List.mem_iff_getElem?.1 hrow
              obtain ⟨hil, rfl⟩ := hat i row hi
              have : (i + 1) * z ≤ len * z := Nat.mul_le_mul_right z hil
              rw [Nat.succ_mul] at this
              simp; omega)
            (by
              intro row hrow x hx
              obtain ⟨i, hi⟩ := List.mem_iff_getElem?.1 hrow
              obtain ⟨hil, rfl⟩ := hat i row hi
              exact permOk_of (hp x (hsub i hil x hx)))
            (by
              intro i j row x hi hj
              obtain ⟨hil, rfl⟩ := hat i row hi
              have hpx := permOk_of (hp x (hsub i hil x (List.mem_of_getElem? hj)))
              have hjz : j < z := by have := (List.getElem?_eq_some_iff.1 hj).1; simp at this; omega
              rw [List.getElem?_take_of_lt hjz, List.getElem?_drop, List.getElem?_drop] at hj
              have hlt : o + (off + (i * z + j)) < c.size := by have := (List.getElem?_eq_some_iff.1 hj).1; omega
              refine ⟨c[o + (off + (i * z + j))], ?_, (h7 _ _ x (by simp [hlt]) hj).vkeep visLe_l0 (by rw [hpx.2]; simp)⟩
              rw [add_add, add_off]
              exact vis_bor h5 hg' (by rw [cell_at w b _ h2]; simp [hlt]))
          rw [rowsOf_len] at this
          exact this
        · exact .undef _

theorem S0of_idx {r i : Nat} (h : idx gs r = some i) : S0of gs S i = S r := by
  unfold S0of
  rw [idx_some h]; rfl
theorem conv_rep (h : Inv w0 l0 G S0 w lev own S env tm) : ∀ (k : Nat) (d : D) (v : Value), RepV (cx w lev S) v d → RepV (cx w (l0of bw gs lev own) (S0of gs S)) v (conv bw gs env.o k d)
  | 0, d, v, hr => by
    simp only [conv, plain0]
    split
    · rename_i hn
      have hn' : d.names = [] := by simpa using hn
      exact hr.vkeep visLe_l0 (by rw [hn']; simp)
    · exact .undef _
  | k + 1, d, v, hr => by
    have ih := conv_rep h k
    have keep0 : d.names = [] → RepV (cx w (l0of bw gs lev own) (S0of gs S)) v d := fun hn => hr.vkeep visLe_l0 (by rw [hn]; simp)
    have lst : ∀ (vs : Array Value) (ds : List D), vs.size = ds.length → (∀ (i : Nat) v d, vs[i]? = some v → ds[i]? = some d → RepV (cx w lev S) v d) →
        vs.size = (ds.map (conv bw gs env.o k)).length ∧ ∀ (i : Nat) v d, vs[i]? = some v → (ds.map (conv bw gs env.o k))[i]? = some d → RepV (cx w (l0of bw gs lev own) (S0of gs S)) v d := by
      intro vs ds hl hh
      refine ⟨by simpa using hl, ?_⟩
      intro i v d hi hd
      simp only [List.getElem?_map] at hd
      cases e : ds[i]? with
      | none => rw [e] at hd; cases hd
      | some x => rw [e] at hd; cases hd; exact ih x v (hh i v x hi e)
    have lend : ∀ d', RepV (cx w lev S) v d' → RepV (cx w (l0of bw gs lev own) (S0of gs S)) v (hideIf (!bw) (bor env.o gs k d')) := by
      intro d' hd'
      unfold hideIf
      cases bw with
      | false => exact .undef _
      | true => exact bor_rep h _ k d' v hd'
    cases d <;> simp only [conv] <;> (try exact keep0 rfl) <;> (try (cases hr; done))
    · obtain ⟨vs, rfl, hs, hv⟩ := hr.fn_inv; obtain ⟨h1, h2⟩ := lst vs _ hs hv; exact .fn _ vs _ h1 h2
    · obtain ⟨vs, rfl, hs, hv⟩ := hr.agg_inv; obtain ⟨h1, h2⟩ := lst vs _ hs hv; exact .agg vs _ h1 h2
    · obtain ⟨vs, rfl, hs, hv⟩ := hr.tup_inv; obtain ⟨h1, h2⟩ := lst vs _ hs hv; exact .tup vs _ h1 h2
    · rename_i r
      cases e : idx gs r with
      | none => exact lend _ hr
      | some i =>
        obtain ⟨hS, a, len, cap, rfl⟩ := hr.ref_inv
        exact .ref i a len cap ((S0of_idx e).trans hS)
    · rename_i r off
      cases e : idx gs r with
      | none => exact lend _ hr
      | some i =>
        obtain ⟨a, hS, rfl⟩ := hr.addr_inv
        exact .addr i off a ((S0of_idx e).trans hS)
    · rename_i r z i j
      cases e : idx gs r with
      | none => exact lend _ hr
      | some x =>
        obtain ⟨a, len, cap, hS, rfl⟩ := hr.oaddr_inv
        exact .oaddr x z i j a len cap ((S0of_idx e).trans hS)
    · rename_i r z lo len
      cases e : idx gs r with
      | none => exact lend _ hr
      | some x =>
        obtain ⟨a, a', L, cap, cap', hS, rfl, q1, q2, q3⟩ := hr.osub_inv
        exact .osub x z lo len a a' L cap cap' ((S0of_idx e).trans hS) q1 q2 q3
    · rename_i r off z len bcap
      cases e : idx gs r with
      | none => exact lend _ hr
      | some x =>
        obtain ⟨a, a', cap', hS, rfl, q1, q2, q3⟩ := hr.bsub_inv
        obtain ⟨_, rfl, q4⟩ := q3
        exact .bsub x off z len _ a a' ((S0of_idx e).trans hS) q4 q2

/-- the objects that are given, as the callee has them -/
theorem conv_obj (h : Inv w0 l0 G S0 w lev own S env tm) (hn : gs.Nodup) {i r : Nat} (hi : gs[i]? = some r) (k : Nat) (hlive : env.o r ≠ .undef) :
    ObjAt w.heap.size (G0of gs S env.o) w (l0of bw gs lev own) (own0of gs own) (S0of gs S) i (convO bw gs env.o k (env.o r)) := by
  have ho := h.objs r
  have hmem := List.mem_of_getElem? hi
  have hx := idx_of hn hi
  have hS0 : S0of gs S i = S r := S0of_idx hx
  have hc : gs.contains r = true := List.contains_iff_mem.2 hmem
  have hlev : ∀ b, own b = some r → l0of bw gs lev own b = lev b := by intro b hb; unfold l0of; simp only [hb, hc, if_true]
  have hown : ∀ b, own b = some r → own0of gs own b = some i := by intro b hb; unfold own0of; simp only [hb, Option.bind_some]; exact hx
  cases hd : env.o r <;> rw [hd] at ho <;> simp only [convO] <;> (try exact ho.elim)
  · exact (hlive hd).elim
  · rename_i z rows
    rcases ho with ⟨a, h1, rfl⟩ | ⟨b, c, E, cap, h1, h2, h3, h4, h5, h6, h7, h8, h9, h10⟩
    · exact .inl ⟨a, hS0.trans h1, rfl⟩
    · by_cases h0 : cap = 0
      · subst h0
        have : rows = [] := List.length_eq_zero_iff.1 (by omega)
        subst this
        exact .inl ⟨_, hS0.trans h1, rfl⟩
      · refine .inr ⟨b, c, E, cap, hS0.trans h1, h2, h3, h4, h5, h6, (hlev b h8).trans h7, hown b h8, .inr ⟨0, cap * z, ?_, Nat.le_refl _, by rw [h3]; exact Nat.le_refl _⟩, ?_⟩
        · exact G0_of h hmem h1 (by rw [hd]; simp [blkOf, h0])
        · intro i' j row d hi' hj
          obtain ⟨u, hu, hru⟩ := h10 i' j row d hi' hj
          exact ⟨u, hu, hru.vkeep visLe_l0 (by rw [(h6 row (List.mem_of_getElem? hi') d (List.mem_of_getElem? hj)).2]; simp)⟩
  · rename_i cs
    obtain ⟨b, o, c, E, h1, h2, h3, h4, h5, h6, h7⟩ := ho
    refine ⟨b, o, c, E, hS0.trans h1, h2, by simpa using h3, (hlev b h5).trans h4, hown b h5, .inr ⟨o, o + cs.length, ?_, Nat.le_refl _, by simp⟩, ?_⟩
    · exact G0_of h hmem h1 (by rw [hd]; simp [blkOf])
    · intro j u e hu he
      simp only [List.getElem?_map] at he
      cases hx' : cs[j]? with
      | none => rw [hx'] at he; cases he
      | some x => rw [hx'] at he; cases he; exact conv_rep h k x u (h7 j u x hu hx')
end
end Go.Abs
