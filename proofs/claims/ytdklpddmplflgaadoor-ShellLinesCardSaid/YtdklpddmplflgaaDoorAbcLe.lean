/- What is known of slots and objects may be forgotten, and objects may be named anew; no theorem of a claim. -/
import Derived.Test.YtdklpddmplflgaaDoorAbcFrz
set_option linter.unusedSimpArgs false
set_option linter.unusedVariables false
namespace Go.Abs

mutual
/-- what is known by d (with the elder names) is known by d' (with the new ones): rho tells the elder name of a new one, none: of an empty slice that was nil; lv: is the new name alive? -/
def leD (rho : Nat → Option Nat) (lv : Nat → Bool) : D → D → Prop
  | _, .undef => True
  | .ref r, .ref s => rho s = some r ∧ lv s = true
  | .nil, .ref s => rho s = none ∧ lv s = true
  | .addr r o, .addr s o' => rho s = some r ∧ lv s = true ∧ o = o'
  | .oaddr r z i k, .oaddr s z' i' k' => rho s = some r ∧ lv s = true ∧ z = z' ∧ i = i' ∧ k = k'
  | .osub r z l m, .osub s z' l' m' => rho s = some r ∧ lv s = true ∧ z = z' ∧ l = l' ∧ m = m'
  | .bsub r o z m c, .bsub s o' z' m' c' => rho s = some r ∧ lv s = true ∧ o = o' ∧ z = z' ∧ m = m' ∧ c = c'
  | .agg a, .agg b => leDL rho lv a b
  | .tup a, .tup b => leDL rho lv a b
  | .fn f a, .fn g b => f = g ∧ leDL rho lv a b
  | .nil, .sl _ rows => rows = []
  | .nil, .emp => True
  | .nil, .nil => True
  | .emp, .emp => True
  | .nilfn, .nilfn => True
  | .nilif, .nilif => True
  | .someif, .someif => True
  | .nilp, .nilp => True
  | .bool a, .bool b => a = b
  | .int k a, .int k' b => k = k' ∧ a = b
  | .str a, .str b => a = b
  | .sl z a, .sl z' b => z = z' ∧ a = b
  | .eaddr a, .eaddr b => a = b
  | _, _ => False
def leDL (rho : Nat → Option Nat) (lv : Nat → Bool) : List D → List D → Prop
  | [], [] => True
  | a :: x, b :: y => leD rho lv a b ∧ leDL rho lv x y
  | _, _ => False
end
theorem leDL_get {rho : Nat → Option Nat} {lv : Nat → Bool} : ∀ {a b : List D}, leDL rho lv a b → a.length = b.length ∧ ∀ (i : Nat) x y, a[i]? = some x → b[i]? = some y → leD rho lv x y
  | [], [], _ => ⟨rfl, fun i x y h => by simp at h⟩
  | [], _ :: _, h => by simp [leDL] at h
  | _ :: _, [], h => by simp [leDL] at h
  | a :: x, b :: y, h => by
    simp only [leDL] at h
    obtain ⟨h1, h2⟩ := leDL_get h.2
    refine ⟨by simp [h1], ?_⟩
    intro i u v hu hv
    cases i with
    | zero => simp at hu hv; subst hu; subst hv; exact h.1
    | succ i => simp at hu hv; exact h2 i u v hu hv
def leO (rho : Nat → Option Nat) (lv : Nat → Bool) : D → D → Prop
  | .box a, .box b => leDL rho lv a b
  | .own z a, .own z' b => z = z' ∧ a = b
  | _, _ => False

theorem leD.rep {C C' : Cx} {rho : Nat → Option Nat} {lv : Nat → Bool} (hV : ∀ a v, C.V a = some v → C'.V a = some v) (hS : ∀ s r, rho s = some r → lv s = true → ∀ u, C.S r = some u → C'.S s = some u) (hN : ∀ s, rho s = none → lv s = true → C'.S s = some (.slice none 0 0))
    {v : Value} {d : D} (r : RepV C v d) : ∀ {d' : D}, leD rho lv d d' → RepV C' v d' := by
  have lst : ∀ (vs : Array Value) (ds : List D) (ds' : List D), vs.size = ds.length → (∀ (i : Nat) v d, vs[i]? = some v → ds[i]? = some d → ∀ {d' : D}, leD rho lv d d' → RepV C' v d') → leDL rho lv ds ds' →
      vs.size = ds'.length ∧ ∀ (i : Nat) v d, vs[i]? = some v → ds'[i]? = some d → RepV C' v d := by
    intro vs ds ds' hl ih hle
    obtain ⟨h1, h2⟩ := leDL_get hle
    refine ⟨hl.trans h1, ?_⟩
    intro i v d hi hd
    have hlt : i < ds.length := by rw [h1]; exact (List.getElem?_eq_some_iff.1 hd).1
    exact ih i v _ hi (List.getElem?_eq_getElem hlt) (h2 i _ d (List.getElem?_eq_getElem hlt) hd)
  induction r with
  | fn f vs ds hl h ih => intro d' hd; cases d' <;> simp only [leD] at hd <;> first | exact .undef _ | exact hd.elim | skip; (obtain ⟨rfl, hd⟩ := hd; obtain ⟨h1, h2⟩ := lst vs ds _ hl ih hd; exact .fn f vs _ h1 h2)
  | agg vs ds hl h ih => intro d' hd; cases d' <;> simp only [leD] at hd <;> first | exact .undef _ | exact hd.elim | skip; (obtain ⟨h1, h2⟩ := lst vs ds _ hl ih hd; exact .agg vs _ h1 h2)
  | tup vs ds hl h ih => intro d' hd; cases d' <;> simp only [leD] at hd <;> first | exact .undef _ | exact hd.elim | skip; (obtain ⟨h1, h2⟩ := lst vs ds _ hl ih hd; exact .tup vs _ h1 h2)
  | undef v => intro d' hd; cases d' <;> simp only [leD] at hd <;> first | exact .undef _ | exact hd.elim
  | bool b => intro d' hd; cases d' <;> simp only [leD] at hd <;> first | exact .undef _ | exact hd.elim | (subst hd; exact .bool _)
  | int k n => intro d' hd; cases d' <;> simp only [leD] at hd <;> first | exact .undef _ | exact hd.elim | (obtain ⟨rfl, rfl⟩ := hd; exact .int _ _)
  | str s => intro d' hd; cases d' <;> simp only [leD] at hd <;> first | exact .undef _ | exact hd.elim | (subst hd; exact .str _)
  | nil =>
    intro d' hd
    cases d' <;> simp only [leD] at hd <;> first | exact .undef _ | exact hd.elim | exact .nil | exact .emp _ | skip
    · subst hd; exact .slnil _
    · exact .ref _ none 0 0 (hN _ hd.1 hd.2)
  | emp a => intro d' hd; cases d' <;> simp only [leD] at hd <;> first | exact .undef _ | exact hd.elim | exact .emp _
  | nilfn => intro d' hd; cases d' <;> simp only [leD] at hd <;> first | exact .undef _ | exact hd.elim | exact .nilfn
  | nilif => intro d' hd; cases d' <;> simp only [leD] at hd <;> first | exact .undef _ | exact hd.elim | exact .nilif
  | someif t v => intro d' hd; cases d' <;> simp only [leD] at hd <;> first | exact .undef _ | exact hd.elim | exact .someif _ _
  | nilp => intro d' hd; cases d' <;> simp only [leD] at hd <;> first | exact .undef _ | exact hd.elim | exact .nilp
  | slnil z => intro d' hd; cases d' <;> simp only [leD] at hd <;> first | exact .undef _ | exact hd.elim | (obtain ⟨rfl, rfl⟩ := hd; exact .slnil _)
  | sl z a cap rows f hl hz hk hc h1 _ =>
    intro d' hd
    cases d' <;> simp only [leD] at hd <;> first | exact .undef _ | exact hd.elim | skip
    obtain ⟨rfl, rfl⟩ := hd
    exact RepV.keep (d := .sl z rows) hV (.sl z a cap rows f hl hz hk hc h1) (fun s hs => by simp [D.names] at hs)
  | eaddr a cs f hn hc h1 _ =>
    intro d' hd
    cases d' <;> simp only [leD] at hd <;> first | exact .undef _ | exact hd.elim | skip
    subst hd
    exact RepV.keep (d := .eaddr cs) hV (.eaddr a cs f hn hc h1) (fun s hs => by simp [D.names] at hs)
  | ref r a len cap h => intro d' hd; cases d' <;> simp only [leD] at hd <;> first | exact .undef _ | exact hd.elim | exact .ref _ a len cap (hS _ _ hd.1 hd.2 _ h)
  | addr r off a h => intro d' hd; cases d' <;> simp only [leD] at hd <;> first | exact .undef _ | exact hd.elim | (obtain ⟨h1, h2, rfl⟩ := hd; exact .addr _ _ a (hS _ _ h1 h2 _ h))
  | oaddr r z i k a len cap h => intro d' hd; cases d' <;> simp only [leD] at hd <;> first | exact .undef _ | exact hd.elim | (obtain ⟨h1, h2, rfl, rfl, rfl⟩ := hd; exact .oaddr _ _ _ _ a len cap (hS _ _ h1 h2 _ h))
  | osub r z lo len a a' L cap cap' h q1 q2 q3 => intro d' hd; cases d' <;> simp only [leD] at hd <;> first | exact .undef _ | exact hd.elim | (obtain ⟨h1, h2, rfl, rfl, rfl⟩ := hd; exact .osub _ _ _ _ a a' L cap cap' (hS _ _ h1 h2 _ h) q1 q2 q3)
  | bsub r off z len cap a a' h q1 q2 => intro d' hd; cases d' <;> simp only [leD] at hd <;> first | exact .undef _ | exact hd.elim | (obtain ⟨h1, h2, rfl, rfl, rfl, rfl⟩ := hd; exact .bsub _ _ _ _ _ a a' (hS _ _ h1 h2 _ h) q1 q2)

structure LeE (m : Nat) (rho : Nat → Option Nat) (e E : Env) : Prop where
  temps : ∀ j, leD rho (fun s => !isUndef (E.o s)) (e.t j) (E.t j)
  objs : ∀ s, E.o s ≠ .undef → match rho s with
    | some r => leO rho (fun s => !isUndef (E.o s)) (e.o r) (E.o s)
    | none => ∃ z, E.o s = .own z []
  inj : ∀ s s' r, E.o s ≠ .undef → E.o s' ≠ .undef → rho s = some r → rho s' = some r → s = s'
  ent : ∀ s, s < m → E.o s ≠ .undef → rho s = some s

theorem isUndef_iff {d : D} : isUndef d = true ↔ d = .undef := by cases d <;> simp [isUndef]

section
variable {P : Program} {w0 w w' : World} {l0 : Nat → Option Nat} {G : Nat → Option (Nat × Nat)} {S0 : Nat → Option Value} {lev lev' own own' : Nat → Option Nat} {S S' : Nat → Option Value} {env env' : Env} {tm tm' : Nat → Value}

theorem Inv.le_m {m : Nat} (hm : m ≤ 16) {rho : Nat → Option Nat} {E : Env} (h : Inv w0 l0 G S0 w lev own S env tm) (hl : LeE m rho env E) : ∃ own' S', (∀ i, i < m → E.o i ≠ .undef → S' i = S0 i) ∧ (∀ s, RepV (cx w lev S') (tm s) (E.t s)) ∧ ∀ r, ObjAt w0.heap.size G w lev own' S' r (E.o r) := by
  let S' : Nat → Option Value := fun s => if isUndef (E.o s) then none else match rho s with
    | some r => S r
    | none => some (.slice none 0 0)
  let own' : Nat → Option Nat := fun b => (own b).bind fun r => open Classical in if h : ∃ s, E.o s ≠ .undef ∧ rho s = some r then some (Classical.choose h) else none
  have hS : ∀ s r, rho s = some r → (!isUndef (E.o s)) = true → ∀ u, S r = some u → S' s = some u := by
    intro s r hr hlv u hu
    simp only [Bool.not_eq_true'] at hlv
    simp only [S', hlv, hr, Bool.false_eq_true, if_false]
    exact hu
  have hN : ∀ s, rho s = none → (!isUndef (E.o s)) = true → S' s = some (.slice none 0 0) := by
    intro s hr hlv
    simp only [Bool.not_eq_true'] at hlv
    simp only [S', hlv, hr, Bool.false_eq_true, if_false]
  have hrep : ∀ {v : Value} {d d' : D}, RepV (cx w lev S) v d → leD rho (fun s => !isUndef (E.o s)) d d' → RepV (cx w lev S') v d' := fun hr hd => leD.rep (C := cx w lev S) (C' := cx w lev S') (fun _ _ h => h) hS hN hr hd
  refine ⟨own', S', ?_, ?_, ?_⟩
  · intro i hi he
    have hr := hl.ent i hi he
    have ho := hl.objs i he
    rw [hr] at ho
    have hne : env.o i ≠ .undef := by
      intro e
      simp only [e] at ho
      cases hx : E.o i <;> rw [hx] at ho <;> exact ho.elim
    have hlv : isUndef (E.o i) = false := by
      cases hx : isUndef (E.o i) with
      | false => rfl
      | true => exact (he (isUndef_iff.1 hx)).elim
    simp only [S', hlv, hr, Bool.false_eq_true, if_false]
    exact h.ent i (by omega) hne
  · intro s
    exact hrep (h.temps s) (hl.temps s)
  · intro s
    by_cases hu : E.o s = .undef
    · rw [hu]
      show S' s = none
      simp [S', hu, isUndef]
    have hlv : (!isUndef (E.o s)) = true := by
      cases hx : isUndef (E.o s) with
      | false => rfl
      | true => exact (hu (isUndef_iff.1 hx)).elim
    have ho := hl.objs s hu
    cases hr : rho s with
    | none =>
      rw [hr] at ho
      obtain ⟨z, hz⟩ := ho
      have hn := hN s hr hlv
      rw [hz]
      exact .inl ⟨none, hn, rfl⟩
    | some r =>
      rw [hr] at ho
      simp only at ho
      have hob := h.objs r
      have hown : ∀ b, own b = some r → own' b = some s := by
        intro b hb
        simp only [own', hb, Option.bind_some]
        have hex : ∃ s, E.o s ≠ .undef ∧ rho s = some r := ⟨s, hu, hr⟩
        rw [dif_pos hex]
        have hc := Classical.choose_spec hex
        rw [hl.inj _ _ r hc.1 hu hc.2 hr]
      cases hE : E.o s <;> rw [hE] at ho <;> cases he : env.o r <;> rw [he] at ho hob <;> simp only [leO] at ho
      · obtain ⟨rfl, rfl⟩ := ho
        rename_i z rows
        rcases hob with ⟨a, h1, h2⟩ | ⟨b, c, EE, cap, h1, h2, h3, h4, h5, h6, h7, h8, h9, h10⟩
        · exact .inl ⟨a, hS s r hr hlv _ h1, h2⟩
        · refine .inr ⟨b, c, EE, cap, hS s r hr hlv _ h1, h2, h3, h4, h5, h6, h7, hown b h8, h9, ?_⟩
          intro i j row d hi hj
          obtain ⟨u, hu', hru⟩ := h10 i j row d hi hj
          exact ⟨u, hu', hru.vkeep (.refl _ _) (by rw [(h6 row (List.mem_of_getElem? hi) d (List.mem_of_getElem? hj)).2]; simp)⟩
      · rename_i a b'
        obtain ⟨hlen, hget⟩ := leDL_get ho
        obtain ⟨b, o, c, EE, h1, h2, h3, h4, h5, h6, h7⟩ := hob
        refine ⟨b, o, c, EE, hS s r hr hlv _ h1, h2, by omega, h4, hown b h5, by rw [← hlen]; exact h6, ?_⟩
        intro j u x hu' hx
        have hlt : j < b'.length := by rw [hlen]; exact (List.getElem?_eq_some_iff.1 hx).1
        exact hrep (h7 j u _ hu' (List.getElem?_eq_getElem hlt)) (hget j _ x (List.getElem?_eq_getElem hlt) hx)
theorem Inv.le {rho : Nat → Option Nat} {E : Env} (h : Inv w0 l0 G S0 w lev own S env tm) (hl : LeE 16 rho env E) : ∃ own' S', Inv w0 l0 G S0 w lev own' S' E tm := by
  obtain ⟨own', S', h1, h2, h3⟩ := h.le_m (Nat.le_refl _) hl
  exact ⟨own', S', h.os, h.tape, h.output, h.size, h.old, h.part, h.priv, h.levOld, h1, h2, h3⟩
end

/-! ### environments told by lists -/
def look : List (Nat × D) → Nat → D
  | [], _ => .undef
  | x :: r, j => if j = x.1 then x.2 else look r j
def mkE (ts os : List (Nat × D)) : Env := ⟨look ts, look os⟩
mutual
def prs : D → D → List (Nat × Option Nat)
  | .ref s, .ref r => [(s, some r)]
  | .ref s, .nil => [(s, none)]
  | .addr s _, .addr r _ => [(s, some r)]
  | .oaddr s _ _ _, .oaddr r _ _ _ => [(s, some r)]
  | .osub s _ _ _, .osub r _ _ _ => [(s, some r)]
  | .bsub s _ _ _ _, .bsub r _ _ _ _ => [(s, some r)]
  | .agg a, .agg b => prsL a b
  | .tup a, .tup b => prsL a b
  | .fn _ a, .fn _ b => prsL a b
  | .box a, .box b => prsL a b
  | _, _ => []
def prsL : List D → List D → List (Nat × Option Nat)
  | a :: x, b :: y => prs a b ++ prsL x y
  | _, _ => []
end
def rho (l : List (Nat × Option Nat)) (s : Nat) : Option Nat :=
  match l with
  | [] => some s
  | x :: r => if s = x.1 then x.2 else rho r s
def prsT (e : Env) : List (Nat × D) → List (Nat × Option Nat)
  | [] => []
  | x :: r => prs x.2 (e.t x.1) ++ prsT e r
def oAt (e : Env) : Option Nat → D
  | some r => e.o r
  | none => .undef
def prsO (e : Env) (l : List (Nat × Option Nat)) : List (Nat × D) → List (Nat × Option Nat)
  | [] => []
  | x :: r => prs x.2 (oAt e (rho l x.1)) ++ prsO e l r
def inL (os : List (Nat × D)) (s : Nat) : Bool :=
  match os with
  | [] => false
  | x :: r => if s = x.1 then true else inL r s
def LeTs (e : Env) (rh : Nat → Option Nat) (os : List (Nat × D)) : List (Nat × D) → Prop
  | [] => True
  | x :: r => leD rh (inL os) (e.t x.1) x.2 ∧ LeTs e rh os r
def isNilO : D → Prop
  | .own _ rows => rows = []
  | _ => False
def LeOb (e : Env) (rh : Nat → Option Nat) (os : List (Nat × D)) (d : D) : Option Nat → Prop
  | some r => leO rh (inL os) (e.o r) d
  | none => isNilO d
def notTwice (o : Option Nat) (rh : Nat → Option Nat) : List (Nat × D) → Prop
  | [] => True
  | x :: r => (match o with
    | some a => rh x.1 ≠ some a
    | none => True) ∧ notTwice o rh r
def entOk (m s : Nat) (o : Option Nat) : Prop := m ≤ s ∨ o = some s
def LeOs (m : Nat) (e : Env) (rh : Nat → Option Nat) (os : List (Nat × D)) : List (Nat × D) → Prop
  | [] => True
  | x :: r => inL r x.1 = false ∧ LeOb e rh os x.2 (rh x.1) ∧ notTwice (rh x.1) rh r ∧ entOk m x.1 (rh x.1) ∧ LeOs m e rh os r
def LeR (m : Nat) (e : Env) (ts os : List (Nat × D)) (l : List (Nat × Option Nat)) : Prop := LeTs e (rho l) os ts ∧ LeOs m e (rho l) os os
def LeP (m : Nat) (e : Env) (ts os : List (Nat × D)) (l : List (Nat × Option Nat)) : Prop := LeR m e ts os (l ++ prsO e l os)
/-- the environment is at least the one that the lists tell -/
def LeM (m : Nat) (e : Env) (ts os : List (Nat × D)) : Prop := LeP m e ts os (prsT e ts)
def LeL (e : Env) (ts os : List (Nat × D)) : Prop := LeM 16 e ts os

theorem inL_look {os : List (Nat × D)} {e : Env} {rh : Nat → Option Nat} {os0 : List (Nat × D)} {m : Nat} (h : LeOs m e rh os0 os) (s : Nat) : inL os s = !isUndef (look os s) := by
  induction os with
  | nil => rfl
  | cons x r ih =>
    obtain ⟨h1, h2, h3, h4, h5⟩ := h
    simp only [inL, look]
    by_cases e' : s = x.1
    · subst e'
      simp only [if_true]
      cases hr : rh x.1 with
      | none => rw [hr] at h2; cases hx : x.2 <;> rw [hx] at h2 <;> simp [LeOb, isNilO] at h2 <;> rfl
      | some r => rw [hr] at h2; cases hx : x.2 <;> rw [hx] at h2 <;> cases hy : e.o r <;> simp only [LeOb, hy, leO] at h2 <;> rfl
    · simp only [if_neg e']; exact ih h5
theorem leD_nil_undef {rh : Nat → Option Nat} {lv : Nat → Bool} (d : D) : leD rh lv d .undef := by cases d <;> simp [leD]
theorem LeM.le {m : Nat} {e : Env} {ts os : List (Nat × D)} (h : LeM m e ts os) : ∃ rh, LeE m rh e (mkE ts os) := by
  unfold LeM LeP LeR at h
  generalize rho _ = rh at h
  obtain ⟨h1, h2⟩ := h
  have hlv : inL os = fun s => !isUndef ((mkE ts os).o s) := by funext s; exact inL_look h2 s
  refine ⟨rh, ?_, ?_, ?_, ?_⟩
  · intro j
    rw [← hlv]
    show leD rh (inL os) (e.t j) (look ts j)
    clear hlv h2
    induction ts with
    | nil => exact leD_nil_undef _
    | cons x r ih =>
      simp only [look]
      by_cases e' : j = x.1
      · subst e'; simp only [if_true]; exact h1.1
      · simp only [if_neg e']; exact ih h1.2
  · intro s hs
    rw [← hlv]
    show match rh s with | some r => leO rh (inL os) (e.o r) (look os s) | none => ∃ z, look os s = .own z []
    have hs' : look os s ≠ .undef := hs
    clear hlv h1 hs
    suffices hh : ∀ os' : List (Nat × D), LeOs m e rh os os' → look os' s ≠ .undef → match rh s with | some r => leO rh (inL os) (e.o r) (look os' s) | none => ∃ z, look os' s = .own z [] from hh os h2 hs'
    intro os'
    induction os' with
    | nil => intro _ h; exact (h rfl).elim
    | cons x r ih =>
      intro h2 hs'
      obtain ⟨g1, g2, g3, g4, g5⟩ := h2
      simp only [look] at hs' ⊢
      by_cases e' : s = x.1
      · subst e'
        simp only [if_true]
        cases hr : rh x.1 with
        | none =>
          rw [hr] at g2
          cases hx : x.2 <;> rw [hx] at g2 <;> simp only [LeOb, isNilO] at g2
          subst g2
          exact ⟨_, rfl⟩
        | some r' => rw [hr] at g2; exact g2
      · simp only [if_neg e'] at hs' ⊢; exact ih g5 hs'
  · intro s s' r hs hs' hr hr'
    have hs : look os s ≠ .undef := hs
    have hs' : look os s' ≠ .undef := hs'
    suffices hh : ∀ os' : List (Nat × D), LeOs m e rh os os' → look os' s ≠ .undef → look os' s' ≠ .undef → s = s' from hh os h2 hs hs'
    have hin : ∀ (os' : List (Nat × D)) (t : Nat), look os' t ≠ .undef → rh t = some r → ¬ notTwice (some r) rh os' := by
      intro os' t
      induction os' with
      | nil => intro h; exact (h rfl).elim
      | cons x q ih =>
        intro ht hrt hn
        simp only [look] at ht
        by_cases e' : t = x.1
        · subst e'; exact hn.1 hrt
        · simp only [if_neg e'] at ht; exact ih ht hrt hn.2
    intro os'
    induction os' with
    | nil => intro _ h; exact (h rfl).elim
    | cons x q ih =>
      intro h2 hs hs'
      obtain ⟨g1, g2, g3, g4, g5⟩ := h2
      simp only [look] at hs hs'
      by_cases e1 : s = x.1
      · by_cases e2 : s' = x.1
        · exact e1.trans e2.symm
        · simp only [if_neg e2] at hs'
          subst e1
          rw [hr] at g3
          exact (hin q s' hs' hr' g3).elim
      · by_cases e2 : s' = x.1
        · simp only [if_neg e1] at hs
          subst e2
          rw [hr'] at g3
          exact (hin q s hs hr g3).elim
        · simp only [if_neg e1] at hs
          simp only [if_neg e2] at hs'
          exact ih g5 hs hs'
  · intro s hlt hs
    have hs : look os s ≠ .undef := hs
    suffices hh : ∀ os' : List (Nat × D), LeOs m e rh os os' → look os' s ≠ .undef → rh s = some s from hh os h2 hs
    intro os'
    induction os' with
    | nil => intro _ h; exact (h rfl).elim
    | cons x q ih =>
      intro h2 hs
      obtain ⟨g1, g2, g3, g4, g5⟩ := h2
      simp only [look] at hs
      by_cases e1 : s = x.1
      · subst e1
        rcases g4 with g4 | g4
        · omega
        · exact g4
      · simp only [if_neg e1] at hs; exact ih g5 hs
theorem LeL.le {e : Env} {ts os : List (Nat × D)} (h : LeL e ts os) : ∃ rh, LeE 16 rh e (mkE ts os) := LeM.le h
end Go.Abs
