/- A region whose order is open; no theorem of a claim. -/
import Derived.Test.YtdklpddmplflgaaDoorAbcSound
import Derived.Orders
set_option linter.unusedSimpArgs false
set_option linter.unusedVariables false
namespace Go.Abs
section
variable {P : Program} {n np : Nat} {e : Env} {K K' : Env → Prop}
theorem StK_mono (h : ∀ e, K e → K' e) {t : TypeId} {a v : D} (hk : StK P e t a K v) : StK P e t a K' v := by
  unfold StK at hk ⊢
  split at hk
  · unfold StB at hk ⊢
    split at hk
    · cases hl : layT P t with
      | none => simp only [hl] at hk
      | some l => simp only [hl] at hk ⊢; exact ⟨hk.1, hk.2.1, hk.2.2.1, h _ hk.2.2.2⟩
    · exact hk.elim
  · unfold StO at hk ⊢
    split at hk
    · cases hl : layT P t with
      | none => simp only [hl] at hk
      | some l => simp only [hl] at hk ⊢; exact ⟨hk.1, hk.2.1, hk.2.2.1, hk.2.2.2.1, hk.2.2.2.2.1, h _ hk.2.2.2.2.2⟩
    · exact hk.elim
  · exact hk.elim
theorem BsK_mono (h : ∀ e, K e → K' e) {len : Nat} {ps : List (Nat × Operand)} {d : Nat} {t : Ty} {z : Option (List D)} (hk : BsK e len ps d K t z) : BsK e len ps d K' t z := by
  unfold BsK at hk ⊢
  split at hk
  · exact ⟨hk.1, hk.2.1, hk.2.2.1, hk.2.2.2.1, hk.2.2.2.2.1, h _ hk.2.2.2.2.2⟩
  · exact hk.elim
theorem MkK_mono (h : ∀ e, K e → K' e) {l c : D} {d : Nat} {t : Ty} {z : Option (List D)} (hk : MkK e d K l c t z) : MkK e d K' l c t z := by
  unfold MkK at hk ⊢
  split at hk
  · exact ⟨hk.1, hk.2.1, hk.2.2.1, hk.2.2.2.1, hk.2.2.2.2.1, hk.2.2.2.2.2.1, hk.2.2.2.2.2.2.1, h _ hk.2.2.2.2.2.2.2⟩
  · exact hk.elim
theorem AppK_mono (h : ∀ e, K e → K' e) {x y : D} {d : Nat} {t t2 : Ty} (hk : AppK e d K x y t t2) : AppK e d K' x y t t2 := by
  unfold AppK at hk ⊢
  split at hk
  · refine ⟨hk.1, ?_⟩
    have hk := hk.2
    unfold AppY at hk ⊢
    split at hk
    · exact ⟨hk.1, hk.2.1, h _ hk.2.2⟩
    · exact ⟨hk.1, hk.2.1, h _ hk.2.2⟩
    · unfold AppA at hk ⊢
      split at hk
      · exact ⟨hk.1, hk.2.1, hk.2.2.1, h _ hk.2.2.2⟩
      · exact hk.elim
    · exact hk.elim
  · exact hk.elim
theorem CallT_mono (h : ∀ e, K e → K' e) {dr : Bool} {d : Nat} {f : Operand} {args : List Operand} (hk : CallT P dr e d f args K) : CallT P dr e d f args K' := by
  obtain ⟨fz, gs, bw, hs', dv, h1, hk⟩ := hk
  exact ⟨fz, gs, bw, hs', dv, h1, CallA_mono (KW.mono h) hk⟩
theorem opK0_mono (h : ∀ e, K e → K' e) {dr : Bool} {o : Oper} {g : Bool} (hk : opK0 P n dr o e g K) : opK0 P n dr o e g K' := by
  have gk : ∀ {g : Bool} {a a' : Prop} {e : Env}, (a → a') → GK g a (K e) → GK g a' (K' e) := fun ha hg => ⟨fun x => ha (hg.1 x), fun x => h _ (hg.2 x)⟩
  have st : ∀ {g : Bool} {ok : Prop} {v : D} {d : Nat}, StepK g ok v (fun u => K (updT e d u)) → StepK g ok v (fun u => K' (updT e d u)) := fun hs => ⟨hs.1, h _ hs.2⟩
  cases hd : o.dst with
  | none =>
    cases hop : o.op <;> simp only [opK0, hop, hd] at hk ⊢
    exact ⟨hk.1, StK_mono h hk.2⟩
  | some d =>
    cases hop : o.op <;> simp only [opK0, hop, hd] at hk ⊢ <;> (try exact ⟨hk.1, st hk.2⟩)
    case box t x => exact ⟨hk.1, hk.2.1, hk.2.2.1, hk.2.2.2.1, h _ hk.2.2.2.2⟩
    case alloc t =>
      refine ⟨hk.1, hk.2.1, ?_⟩
      have hk := hk.2.2
      unfold AlcK at hk ⊢
      split at hk
      · exact ⟨hk.1, h _ hk.2⟩
      · exact hk.elim
    case buildSlice t len parts => exact ⟨hk.1, gk (fun x => ⟨x.1, BsK_mono h x.2⟩) hk.2⟩
    case makeSlice t l c => exact ⟨hk.1, gk (MkK_mono h) hk.2⟩
    case call c =>
      refine ⟨hk.1, ?_⟩
      have hk := hk.2
      cases hc : c.callee with
      | invoke r m => rw [hc] at hk; exact hk.elim
      | value f => rw [hc] at hk; exact gk (fun hk => hk.elim (fun hk => .inl (CallT_mono h hk)) (fun hk => .inr ⟨hk.1, hk.2.mono h⟩)) hk
      | builtin b =>
        rw [hc] at hk
        cases b <;> simp only at hk ⊢ <;> (try exact st hk)
        refine ⟨hk.1, hk.2.1, ?_⟩
        have hk := hk.2.2
        split at hk
        · unfold AppX at hk ⊢
          split at hk
          · exact hk.mono h
          · exact hk.mono h
          · exact AppK_mono h hk
        · exact hk.elim
theorem opK_mono (h : ∀ e, K e → K' e) {dr : Bool} {o : Oper} {g : Bool} (hk : opK P n dr o e g K) : opK P n dr o e g K' := by
  unfold opK at hk ⊢
  split at hk
  · rename_i hh; rw [if_pos hh]; exact ⟨hk.1, hk.2.1, hk.2.2.mono h⟩
  · rename_i hh; rw [if_neg hh]; exact opK0_mono h hk
end

def opTmps (l : List Operand) : List Nat := l.filterMap fun | .tmp t => some t | _ => none
/-- a box's slot and the fields that lead to an address -/
def keyOf (ops : List Oper) : Nat → Nat → List Nat
  | 0, t => [t]
  | k + 1, t => match ops.find? (fun o => o.dst == some t) with
    | some o => (match o.op with
      | .fieldAddr _ (.tmp u) f => f :: keyOf ops k u
      | _ => [t])
    | none => [t]
def loadsAt (ops : List Oper) (ks : List Nat) (o : Oper) : Bool :=
  match o.op with
  | .load _ (.tmp u) => keyOf ops 4 u == ks
  | _ => false
/-- the slot from which an address was made, within the region; loads of one place count as the first of them -/
def rootOf (ops : List Oper) : Nat → Nat → Nat
  | 0, t => t
  | k + 1, t => match ops.find? (fun o => o.dst == some t) with
    | some o => (match o.op with
      | .fieldAddr _ (.tmp u) _ => rootOf ops k u
      | .indexAddr _ (.tmp u) _ => rootOf ops k u
      | .nilCheck (.tmp u) => rootOf ops k u
      | .move (.tmp u) => rootOf ops k u
      | .load _ (.tmp u) => (match ops.find? (loadsAt ops (keyOf ops 4 u)) with
        | some x => x.dst.getD t
        | none => t)
      | _ => t)
    | none => t
def nm16 (s : Nat) : List Nat := (List.range 16).map (nm s)
def nmS (np s : Nat) : List Nat := nm16 s ++ if s < np then List.range 16 else []
def rdT (ops : List Oper) (o : Oper) : List Nat :=
  opTmps o.op.operands.toList ++ (match o.guard with
    | some (j, _) => (dstAt ops j).toList
    | none => [])
/-- does it look at an object? -/
def looks (o : Op) : Bool :=
  match o with
  | .load _ _ | .store _ _ _ | .indexAddr _ _ _ | .slice _ _ _ _ _ | .call _ => true
  | _ => false
def rdO (np : Nat) (ops : List Oper) (o : Oper) : List Nat := if looks o.op then (opTmps o.op.operands.toList).flatMap fun t => nmS np (rootOf ops 8 t) else []
def makes (o : Op) : Bool :=
  match o with
  | .alloc _ | .box _ _ | .buildSlice _ _ _ | .makeSlice _ _ _ => true
  | .call c => (match c.callee with
    | .value _ => true
    | .builtin .append => true
    | _ => false)
  | _ => false
def rootOp (np : Nat) (ops : List Oper) : Operand → List Nat
  | .tmp t => nmS np (rootOf ops 8 t)
  | _ => []
def wrO (np : Nat) (ops : List Oper) (o : Oper) : List Nat :=
  (match o.dst with
    | some d => if makes o.op then nm16 d else []
    | none => []) ++ (match o.op with
    | .store _ a _ => rootOp np ops a
    | _ => [])
def wrT (o : Oper) : List Nat := o.dst.toList
def wAll (np : Nat) (ops : List Oper) : List Nat := ops.flatMap (wrO np ops)
def apartS (np : Nat) (ops : List Oper) (x y : Oper) : Bool :=
  (wrT x).all (fun s => !(rdT ops y).contains s && !(wrT y).contains s) && (wrT y).all (fun s => !(rdT ops x).contains s) &&
  (wrO np ops x).all (fun s => !(rdO np ops y).contains s && !(wrO np ops y).contains s) && (wrO np ops y).all (fun s => !(rdO np ops x).contains s)
def isApp (o : Oper) : Bool :=
  match o.op with
  | .call c => (match c.callee with
    | .builtin .append => true
    | _ => false)
  | _ => false
/-- the type of a pointer to the state, or a number that no type has: a call that is given one stands in one place of its region (set by inst2.sh) -/
def ptrT : Nat := 53
/-- a further one -/
def ptrU : Nat := 60
def isPtrC (o : Oper) : Bool :=
  match o.op with
  | .call c => (match c.callee with
    | .value _ => (match c.argTypes.toList with
      | t :: _ => t == ptrT || t == ptrU
      | [] => false)
    | _ => false)
  | _ => false
def hardD (o : Oper) : Bool := hard o || isApp o || isPtrC o
/-! an append to an empty literal of the same region: it asks no object to be its own -/
def isT (t : Nat) (a : Operand) : Bool :=
  match a with
  | .tmp u => u == t
  | _ => false
def lit0 (o : Op) : Bool :=
  match o with
  | .buildSlice _ len ps => len == 0 && ps.toList.isEmpty
  | _ => false
def app1 (t : Nat) (o : Op) : Bool :=
  match o with
  | .call c => (match c.callee with
    | .builtin .append => (match c.args.toList with
      | x :: _ => isT t x
      | [] => false)
    | _ => false)
  | _ => false
def litAt (t : Nat) : List Oper → Bool
  | [] => false
  | o :: r => (lit0 o.op && (o.guard.isNone && o.dst == some t)) || litAt t r
def appAt (t : Nat) : List Oper → Bool
  | [] => false
  | o :: r => app1 t o.op || appAt t r
def litOf (ops : List Oper) (a : Operand) : Bool :=
  match a with
  | .tmp t => litAt t ops
  | _ => false
def softQ (ops : List Oper) (op : Op) (dst : Option Tmp) : Bool :=
  match op with
  | .buildSlice _ len ps => len == 0 && (ps.toList.isEmpty && (match dst with
    | some d => appAt d ops
    | none => false))
  | .call c => (match c.callee with
    | .builtin .append => (match c.args.toList with
      | x :: _ => litOf ops x
      | [] => false)
    | _ => false)
  | _ => false
def softO (ops : List Oper) (o : Oper) : Bool := softQ ops o.op o.dst && o.guard.isNone
def hardS (ops : List Oper) (o : Oper) : Bool := hardD o && !softO ops o
/-- a slot is copied, and an append that does not ask for the copy: either may be first -/
def mvApp (x y : Oper) : Bool :=
  match x.op, x.dst, x.guard with
  | .move (.tmp u), some dx, none => isApp y && y.guard.isNone && !(opTmps y.op.operands.toList).contains dx && y.dst != some dx && y.dst != some u
  | _, _, _ => false
/-- an append, in a region whose order is open -/
def appA (P : Program) (n : Nat) (o : Oper) (e : Env) (g : Bool) (K : Env → Prop) : Prop :=
  match o.op, o.dst with
  | .call c, some d => d < n ∧ g = true ∧ (match c.args.toList, c.argTypes.toList with
    | [x, y], [T, T2] => AppK e d K (rd e x) (rd e y) (tyT P T) (tyT P T2)
    | _, _ => False)
  | _, _ => False
section
variable {P : Program} {n : Nat} {e : Env} {K K' : Env → Prop}
theorem AppK_X {d : Nat} {S : Prop} {x y : D} {t t2 : Ty} (h : AppK e d K x y t t2) : AppX e d K S x y t t2 := by
  unfold AppX
  split
  · unfold AppK at h
    split at h
    · have := h.2; unfold AppY at this; split at this <;> simp_all
    · exact h.elim
  · unfold AppK at h
    split at h
    · have := h.2
      simp only [bor, rowsD] at this
      unfold AppY at this
      split at this <;> simp_all
    · exact h.elim
  · exact h
theorem isApp_hard {o : Oper} (h : isApp o = true) : hard o = false := by
  unfold isApp at h
  unfold hard
  split at h
  · rename_i c hop
    rw [hop]
    split at h
    · rename_i hc; simp [hc]
    · cases h
  · cases h
theorem appA_opK {o : Oper} {g : Bool} (ha : isApp o = true) (h : appA P n o e g K) : opK P n false o e g K := by
  unfold opK
  rw [isApp_hard ha]
  unfold isApp at ha
  unfold appA at h
  split at ha
  · rename_i c hop
    split at ha
    · rename_i hc
      rw [hop] at h
      cases hd : o.dst with
      | none => rw [hd] at h; exact h.elim
      | some d =>
        rw [hd] at h
        obtain ⟨h1, h2, h3⟩ := h
        simp only [Bool.false_eq_true, if_false, opK0, hop, hd, hc]
        refine ⟨h1, h2, trivial, ?_⟩
        split at h3
        · rename_i x y T T2 ha ht
          rw [ha, ht]
          exact AppK_X h3
        · exact h3.elim
    · cases ha
  · cases ha
theorem appA_mono (h : ∀ e, K e → K' e) {o : Oper} {g : Bool} (hk : appA P n o e g K) : appA P n o e g K' := by
  unfold appA at hk ⊢
  split at hk
  · refine ⟨hk.1, hk.2.1, ?_⟩
    have h3 := hk.2.2
    split at h3
    · exact AppK_mono h h3
    · exact h3.elim
  · exact hk.elim
theorem rd_updT {x : Operand} {l : List Operand} {dx : Nat} {v : D} (hx : x ∈ l) (h : (opTmps l).contains dx = false) : rd (updT e dx v) x = rd e x := by
  cases x with
  | tmp t =>
    have : t ≠ dx := by
      rintro rfl
      have : t ∈ opTmps l := List.mem_filterMap.2 ⟨_, hx, rfl⟩
      rw [List.contains_eq_mem] at h
      simp [this] at h
    exact updT_ne this
  | _ => rfl
theorem appA_move {o : Oper} {g : Bool} {u dx : Nat} (hx : (opTmps o.op.operands.toList).contains dx = false) (h1 : o.dst ≠ some dx) (h2 : o.dst ≠ some u) (h : appA P n o (updT e dx (e.t u)) g K) :
    appA P n o e g fun e2 => K (updT e2 dx (e2.t u)) := by
  unfold appA at h ⊢
  cases hop : o.op <;> rw [hop] at h <;> try exact h.elim
  rename_i c
  cases hd : o.dst with
  | none => rw [hd] at h; exact h.elim
  | some d =>
    rw [hd] at h
    obtain ⟨k1, k2, k3⟩ := h
    refine ⟨k1, k2, ?_⟩
    have ndx : d ≠ dx := fun h => h1 (by rw [hd, h])
    have ndu : d ≠ u := fun h => h2 (by rw [hd, h])
    have base : ∀ (e : Env) (v : D) (k : Nat) (y r : D), v = e.t u → updT (updO (updT e dx v) k y) d r = updT (updT (updO e k y) d r) dx ((updT (updO e k y) d r).t u) := by
      intro e v k y r hv
      have e1 : (updT (updO e k y) d r).t u = v := by rw [updT_ne (Ne.symm ndu)]; exact hv.symm
      rw [e1]
      simp only [updT, updO, Env.mk.injEq, and_true]
      funext j
      by_cases hj : j = d
      · subst hj; simp [ndx]
      · simp [hj]
    split at k3 <;> try exact k3.elim
    rename_i x y T T2 hargs htys
    have hin : ∀ z ∈ c.args.toList, rd (updT e dx (e.t u)) z = rd e z := fun z hz => rd_updT (l := o.op.operands.toList) (by rw [hop]; simp only [Op.operands, Call.operands, Array.toList_append, List.mem_append]; exact .inr hz) hx
    rw [hin x (by rw [hargs]; simp), hin y (by rw [hargs]; simp)] at k3
    unfold AppK at k3 ⊢
    split at k3 <;> try exact k3.elim
    refine ⟨k3.1, ?_⟩
    have k3 := k3.2
    have hbo : bor (updT e dx (e.t u)).o [] 2 (rd e y) = bor e.o [] 2 (rd e y) := rfl
    rw [hbo] at k3
    unfold AppY at k3 ⊢
    split at k3 <;> try exact k3.elim
    · refine ⟨k3.1, k3.2.1, ?_⟩
      dsimp only
      rw [← base e _ _ _ _ rfl]
      exact k3.2.2
    · refine ⟨k3.1, k3.2.1, ?_⟩
      dsimp only
      rw [← base e _ _ _ _ rfl]
      exact k3.2.2
    · rename_i r rows2 _ _
      have ho : (updT e dx (e.t u)).o r = e.o r := rfl
      rw [ho] at k3
      unfold AppA at k3 ⊢
      split at k3 <;> try exact k3.elim
      refine ⟨k3.1, k3.2.1, k3.2.2.1, ?_⟩
      have hk : killE r (updT e dx (e.t u)) = updT (killE r e) dx ((killE r e).t u) := by
        simp only [killE, updT, Env.mk.injEq, and_true]
        funext j
        split <;> rfl
      have k4 := k3.2.2.2
      rw [hk] at k4
      dsimp only
      rw [← base (killE r e) _ _ _ _ rfl]
      exact k4
end
/-- is j behind i by the edges, k steps at most? -/
def reachB (ops : Array Oper) : Nat → Nat → Nat → Bool
  | 0, _, _ => false
  | k + 1, i, j => match ops[i]? with
    | none => false
    | some y => y.after.any (fun e => Region.binds .any e && (e.on == j || reachB ops k e.on j))
/-- every two operations that the edges do not order are apart; edges go back -/
def drawOk (np : Nat) (ops : Array Oper) : Bool :=
  (List.range ops.size).all fun i => match ops[i]? with
    | none => true
    | some y => y.after.all (fun e => !Region.binds .any e || e.on < i) &&
        (List.range i).all fun j => y.after.any (fun e => Region.binds .any e && e.on == j) || (match ops[j]? with
          | none => true
          | some x => (!hardS ops.toList x && !hardS ops.toList y && apartS np ops.toList x y) || (mvApp x y && !softO ops.toList y && !softO ops.toList x) || reachB ops 12 i j)

/-- the objects that are reached from names, four steps deep -/
def reach (o : Nat → D) : Nat → List Nat → List Nat
  | 0, ns => ns
  | k + 1, ns => ns ++ reach o k (D.namesL (ns.map o))
def objsOf (e : Env) (o : Oper) : List Nat :=
  match o.op with
  | .load _ a => (rd e a).names
  | .store _ a _ => (rd e a).names
  | .indexAddr _ x _ => (rd e x).names
  | .slice _ x _ _ _ => (rd e x).names
  | .call c => (match c.callee with
    | .value f => reach e.o 4 (D.namesL (rd e f :: c.args.toList.map (rd e)))
    | _ => D.namesL (c.args.toList.map (rd e)))
  | _ => []
def okName (np : Nat) (ops : List Oper) (o : Oper) (r : Nat) : Bool :=
  (match o.op with
    | .store _ _ _ => (wrO np ops o).contains r
    | _ => (rdO np ops o).contains r || !(wAll np ops).contains r)
def allOk (np : Nat) (ops : List Oper) (o : Oper) : List Nat → Prop
  | [] => True
  | r :: rs => okName np ops o r = true ∧ allOk np ops o rs
theorem allOk_mem {np : Nat} {ops : List Oper} {o : Oper} : ∀ {l : List Nat}, allOk np ops o l → ∀ r ∈ l, okName np ops o r = true
  | [], _, r, hr => by cases hr
  | x :: l, h, r, hr => by
    rcases List.mem_cons.1 hr with rfl | hr
    · exact h.1
    · exact allOk_mem h.2 r hr
def opD (P : Program) (n np : Nat) (ops : List Oper) (o : Oper) (e : Env) (g : Bool) (K : Env → Prop) : Prop :=
  (g = true → allOk np ops o (objsOf e o)) ∧ opK P n true o e g K
def AppF (e : Env) (z by_ d : Nat) (K : Env → Prop) (y : Option (List (List D))) : Prop :=
  match y with
  | some rows2 => (by_ + (1 - by_)) * rows2.length ≤ 2 ^ 47 ∧ e.o (nm d 0) = .undef ∧ K (updT (updO e (nm d 0) (.own z rows2)) d (.ref (nm d 0)))
  | none => False
def AppS (e : Env) (d : Nat) (K : Env → Prop) (x y : D) (t t2 : Ty) : Prop :=
  match x, t, t2 with
  | .emp, .slice z by_ _, .slice _ _ _ => by_ ≤ 2 ^ 32 ∧ AppF e z by_ d K (rowsD z (bor e.o [] 2 y))
  | _, _, _ => False
def Emp0 (e : Env) (d : Nat) (K : Env → Prop) (t : Ty) : Prop :=
  match t with
  | .slice _ _ _ => e.o (nm d 0) = .undef ∧ K (updT e d .emp)
  | _ => False
def softK (P : Program) (n np : Nat) (ops : List Oper) (o : Oper) (e : Env) (K : Env → Prop) : Prop :=
  match o.op, o.dst with
  | .buildSlice t _ _, some d => d < n ∧ Emp0 e d K (tyT P t)
  | .call c, some d => d < n ∧ (match c.args.toList, c.argTypes.toList with
    | [x, y], [T, T2] => allOk np ops o (reach e.o 2 (rd e y).names) ∧ AppS e d K (rd e x) (rd e y) (tyT P T) (tyT P T2)
    | _, _ => False)
  | _, _ => False
theorem AppS_mono {P : Program} {e : Env} {K K' : Env → Prop} (h : ∀ e, K e → K' e) {d : Nat} {x y : D} {t t2 : Ty} (hk : AppS e d K x y t t2) : AppS e d K' x y t t2 := by
  unfold AppS at hk ⊢
  split at hk
  · refine ⟨hk.1, ?_⟩
    have hk := hk.2
    unfold AppF at hk ⊢
    split at hk
    · exact ⟨hk.1, hk.2.1, h _ hk.2.2⟩
    · exact hk.elim
  · exact hk.elim
theorem softK_mono {P : Program} {n np : Nat} {ops : List Oper} {o : Oper} {e : Env} {K K' : Env → Prop} (h : ∀ e, K e → K' e) (hk : softK P n np ops o e K) : softK P n np ops o e K' := by
  unfold softK at hk ⊢
  split at hk
  · refine ⟨hk.1, ?_⟩
    have hk := hk.2
    unfold Emp0 at hk ⊢
    split at hk
    · exact ⟨hk.1, h _ hk.2⟩
    · exact hk.elim
  · refine ⟨hk.1, ?_⟩
    have hk := hk.2
    split at hk
    · exact ⟨hk.1, AppS_mono (P := P) h hk.2⟩
    · exact hk.elim
  · exact hk.elim
theorem AppS_K {e : Env} {K : Env → Prop} {d : Nat} {x y : D} {t t2 : Ty} (hk : AppS e d K x y t t2) : AppK e d K x y t t2 := by
  unfold AppS at hk
  split at hk
  · unfold AppK
    refine ⟨hk.1, ?_⟩
    have hk := hk.2
    unfold AppF at hk
    split at hk
    · rename_i hr
      rw [hr]
      exact hk
    · exact hk.elim
  · exact hk.elim
/-- a soft operation is a literal, or an append -/
theorem soft_or {ops : List Oper} {o : Oper} (h : softO ops o = true) : o.guard = none ∧ ((∃ t len ps d, o.op = .buildSlice t len ps ∧ o.dst = some d ∧ len = 0 ∧ ps = #[]) ∨ isApp o = true) := by
  unfold softO at h
  simp only [Bool.and_eq_true, Option.isNone_iff_eq_none] at h
  refine ⟨h.2, ?_⟩
  have h := h.1
  unfold softQ at h
  split at h
  · rename_i t len ps hop
    simp only [Bool.and_eq_true, beq_iff_eq] at h
    obtain ⟨h1, h2, h3⟩ := h
    split at h3
    · rename_i d hd
      refine .inl ⟨t, len, ps, d, hop, hd, h1, ?_⟩
      have : ps.toList = [] := List.isEmpty_iff.1 h2
      exact Array.ext' (by simpa using this)
    · cases h3
  · rename_i c hop
    split at h
    · rename_i hc
      right
      simp [isApp, hop, hc]
    · cases h
  · cases h
def wpOpD (P : Program) (n np : Nat) (ops : List Oper) (o : Oper) (e : Env) (K : Env → Prop) : Prop :=
  match gval ops e o.guard with
  | some g => if softO ops o then softK P n np ops o e K else if hardD o then (if isApp o then appA P n o e g K else opK P n false o e g K) else opD P n np ops o e g K
  | none => False
def wpListD (P : Program) (n np : Nat) (ops : List Oper) : List Oper → Env → (Env → Prop) → Prop
  | [], e, K => K e
  | o :: r, e, K => wpOpD P n np ops o e fun e' => wpListD P n np ops r e' K

/-! ### the step as a relation -/
def eff (ft fo : Nat → Option D) (e : Env) : Env := ⟨fun j => (ft j).getD (e.t j), fun j => (fo j).getD (e.o j)⟩
def one (i : Nat) (d : D) : Nat → Option D := fun j => if j = i then some d else none
def noEff : Nat → Option D := fun _ => none
theorem eff_T (i : Nat) (d : D) (e : Env) : updT e i d = eff (one i d) noEff e := by
  simp only [updT, eff, one, noEff, Option.getD_none, Env.mk.injEq, and_true]
  funext j
  by_cases h : j = i <;> simp [h]
theorem eff_O (i : Nat) (d : D) (e : Env) : updO e i d = eff noEff (one i d) e := by
  simp only [updO, eff, one, noEff, Option.getD_none, Env.mk.injEq, true_and]
  funext j
  by_cases h : j = i <;> simp [h]
theorem eff_TO (i k : Nat) (d x : D) (e : Env) : updT (updO e k x) i d = eff (one i d) (one k x) e := by
  rw [eff_T, eff_O]
  simp [eff, noEff]
def zipE (f : Nat → Option Nat) : List Nat → List D → Nat → Option D
  | n :: ns, h :: hs => fun j => match zipE f ns hs j with
    | some x => some x
    | none => if j = n then some (h.ren f) else none
  | _, _ => noEff
theorem putO_eff (f : Nat → Option Nat) : ∀ (ns : List Nat) (hs : List D) (e : Env), putO f ns hs e = eff noEff (zipE f ns hs) e
  | [], _, e => rfl
  | _ :: _, [], e => rfl
  | n :: ns, h :: hs, e => by
    rw [putO, putO_eff f ns hs, eff_O]
    simp only [eff, noEff, zipE, Option.getD_none, Env.mk.injEq, true_and]
    funext j
    cases zipE f ns hs j with
    | some x => rfl
    | none => simp [one]
theorem zipE_mem {f : Nat → Option Nat} : ∀ {ns : List Nat} {hs : List D} {j : Nat} {x : D}, zipE f ns hs j = some x → j ∈ ns
  | [], _, j, x, h => by simp [zipE, noEff] at h
  | _ :: _, [], j, x, h => by simp [zipE, noEff] at h
  | n :: ns, y :: hs, j, x, h => by
    simp only [zipE] at h
    cases e : zipE f ns hs j with
    | some z => exact List.mem_cons_of_mem _ (zipE_mem e)
    | none =>
      rw [e] at h
      simp only at h
      split at h
      · rename_i hj; subst hj; simp
      · cases h
theorem postE_eff (d : Nat) (hs' : List D) (dv : D) (e : Env) : postE e d [] hs' dv = eff (one d (dv.ren (at? (callNs d [] hs')))) (zipE (at? (callNs d [] hs')) (callNs d [] hs') hs') e := by
  have hd : deads [] hs' = [] := by cases hs' <;> rfl
  unfold postE
  rw [hd, killEL, putO_eff, eff_T]
  simp [eff, noEff]

def agree (np : Nat) (ops : List Oper) (o : Oper) (e e2 : Env) : Prop :=
  (∀ s ∈ rdT ops o, e.t s = e2.t s) ∧ ∀ r, (r ∈ rdO np ops o ∨ r ∈ wrO np ops o ∨ r ∉ wAll np ops) → e.o r = e2.o r
theorem mem_opTmps {l : List Operand} {t : Nat} (h : .tmp t ∈ l) : t ∈ opTmps l := List.mem_filterMap.2 ⟨_, h, rfl⟩

section
variable {P : Program} {n np : Nat} {ops : List Oper} {o : Oper} {e e2 : Env}

theorem agree.rd (h : agree np ops o e e2) {x : Operand} (hx : x ∈ o.op.operands.toList) : rd e x = rd e2 x := by
  cases x <;> try rfl
  rename_i t
  exact h.1 t (List.mem_append_left _ (mem_opTmps hx))
theorem agree.obj (h : agree np ops o e e2) (hk : allOk np ops o (objsOf e o)) {r : Nat} (hr : r ∈ objsOf e o) : e.o r = e2.o r := by
  have := allOk_mem hk r hr
  unfold okName at this
  refine h.2 r ?_
  split at this
  · exact .inr (.inl (List.contains_iff_mem.1 this))
  · simp only [Bool.or_eq_true, Bool.not_eq_true', List.contains_eq_mem, decide_eq_true_eq, decide_eq_false_iff_not] at this
    rcases this with h | h
    · exact .inl h
    · exact .inr (.inr h)

theorem reach_sub (o1 : Nat → D) : ∀ (k : Nat) (a b : List Nat), (∀ r ∈ a, r ∈ b) → ∀ r ∈ reach o1 k a, r ∈ reach o1 k b := by
  intro k
  induction k with
  | zero => intro a b hab r hr; exact hab r hr
  | succ k ih =>
    intro a b hab r hr
    simp only [reach, List.mem_append] at hr ⊢
    rcases hr with hr | hr
    · exact .inl (hab r hr)
    · refine .inr (ih _ _ ?_ r hr)
      intro s hs
      obtain ⟨y, hy, hs⟩ := namesL_mem.1 hs
      obtain ⟨z, hz, rfl⟩ := List.mem_map.1 hy
      exact namesL_mem.2 ⟨_, List.mem_map.2 ⟨z, hab z hz, rfl⟩, hs⟩
theorem reach_succ (o1 : Nat → D) : ∀ (k : Nat) (a : List Nat), ∀ r ∈ reach o1 k a, r ∈ reach o1 (k + 1) a := by
  intro k
  induction k with
  | zero => intro a r hr; simp only [reach]; exact List.mem_append_left _ hr
  | succ k ih =>
    intro a r hr
    simp only [reach, List.mem_append] at hr
    rcases hr with hr | hr
    · simp only [reach]; exact List.mem_append_left _ hr
    · show r ∈ a ++ reach o1 (k + 1) _
      exact List.mem_append_right _ (ih _ r hr)
theorem bor_agree {o1 o2 : Nat → D} (x : List Nat) : ∀ (k : Nat) (d : D), (∀ r ∈ reach o1 k d.names, o1 r = o2 r) → bor o1 x k d = bor o2 x k d
  | 0, d, _ => rfl
  | k + 1, d, h => by
    have hself : ∀ r ∈ d.names, o1 r = o2 r := fun r hr => h r (by simp only [reach]; exact List.mem_append_left _ hr)
    have lst : ∀ cs : List D, (∀ c ∈ cs, ∀ r ∈ reach o1 k c.names, o1 r = o2 r) → cs.map (bor o1 x k) = cs.map (bor o2 x k) := fun cs hc => List.map_congr_left fun c hm => bor_agree x k c (hc c hm)
    have sub : ∀ cs : List D, D.namesL cs = d.names → ∀ c ∈ cs, ∀ r ∈ reach o1 k c.names, o1 r = o2 r := by
      intro cs e c hc r hr
      refine h r (reach_succ o1 k _ r (reach_sub o1 k _ _ ?_ r hr))
      intro s hs
      rw [← e]
      exact namesL_mem.2 ⟨c, hc, hs⟩
    cases d <;> simp only [bor]
    · rw [lst _ (sub _ rfl)]
    · rw [lst _ (sub _ rfl)]
    · rw [lst _ (sub _ rfl)]
    · rw [hself _ (by simp [D.names])]
    · rename_i r off
      have e1 := hself r (by simp [D.names])
      rw [← e1]
      congr 1
      unfold borBox
      split
      · rename_i cs hcs
        congr 1
        refine List.map_congr_left ?_
        intro c hc
        refine bor_agree x k c ?_
        intro s hs
        refine h s ?_
        simp only [reach]
        refine List.mem_append_right _ (reach_sub o1 k _ _ ?_ s hs)
        intro t ht
        refine namesL_mem.2 ⟨o1 r, List.mem_map.2 ⟨r, by simp [D.names], rfl⟩, ?_⟩
        rw [hcs]
        simp only [D.names]
        exact namesL_mem.2 ⟨c, List.mem_of_mem_drop hc, ht⟩
      · rfl
    · rw [hself _ (by simp [D.names])]
    · rw [hself _ (by simp [D.names])]
    · rw [hself _ (by simp [D.names])]

theorem conv_agree {o1 o2 : Nat → D} (bw : Bool) : ∀ (k : Nat) (d : D), (∀ r ∈ reach o1 k d.names, o1 r = o2 r) → conv bw [] o1 k d = conv bw [] o2 k d
  | 0, d, _ => rfl
  | k + 1, d, h => by
    have lst : ∀ cs : List D, (∀ c ∈ cs, ∀ r ∈ reach o1 k c.names, o1 r = o2 r) → cs.map (conv bw [] o1 k) = cs.map (conv bw [] o2 k) := fun cs hc => List.map_congr_left fun c hm => conv_agree bw k c (hc c hm)
    have sub : ∀ cs : List D, D.namesL cs = d.names → ∀ c ∈ cs, ∀ r ∈ reach o1 k c.names, o1 r = o2 r := by
      intro cs e c hc r hr
      refine h r (reach_succ o1 k _ r (reach_sub o1 k _ _ ?_ r hr))
      intro s hs
      rw [← e]
      exact namesL_mem.2 ⟨c, hc, hs⟩
    have hb : bor o1 [] k d = bor o2 [] k d := bor_agree [] k d fun r hr => h r (reach_succ o1 k _ r hr)
    cases d <;> simp only [conv]
    · rw [lst _ (sub _ rfl)]
    · rw [lst _ (sub _ rfl)]
    · rw [lst _ (sub _ rfl)]
    all_goals rw [hb]

theorem ldV_agree {l : Lay} {d : D} (h : ∀ r ∈ d.names, e.o r = e2.o r) : ldV e l d = ldV e2 l d ∧ (ldOk e l d ↔ ldOk e2 l d) := by
  cases d <;> simp only [ldV, ldOk] <;> (try exact ⟨trivial, trivial⟩) <;> (try exact ⟨trivial, Iff.rfl⟩)
  all_goals (rw [h _ (by simp [D.names])]; exact ⟨rfl, Iff.rfl⟩)
theorem lenV_agree {t : Ty} {d : D} (h : ∀ r ∈ d.names, e.o r = e2.o r) : lenV e t d = lenV e2 t d ∧ (lenOk e t d ↔ lenOk e2 t d) := by
  have h1 : lenS e d = lenS e2 d := by
    cases d <;> simp only [lenS]
    rw [h _ (by simp [D.names])]
  have h2 : lenSOk e d ↔ lenSOk e2 d := by
    cases d <;> simp only [lenSOk]
    rw [h _ (by simp [D.names])]
  unfold lenV lenOk
  rw [h1, h2]
  exact ⟨rfl, Iff.rfl⟩
theorem iaV_agree {t : Ty} {d i : D} (h : ∀ r ∈ d.names, e.o r = e2.o r) : iaV e t d i = iaV e2 t d i ∧ (iaOk e t d i ↔ iaOk e2 t d i) := by
  cases d <;> cases i <;> simp only [iaV, iaOk] <;> (try exact ⟨trivial, trivial⟩) <;> (try exact ⟨trivial, Iff.rfl⟩)
  rw [h _ (by simp [D.names])]; exact ⟨trivial, Iff.rfl⟩
theorem slC_agree {t : Ty} {d : D} (h : slN e t d = slN e2 t d) : slC e t d = slC e2 t d := by
  cases d <;> first | exact h | (cases t <;> rfl)
theorem slN_agree {t : Ty} {d : D} (h : ∀ r ∈ d.names, e.o r = e2.o r) : slN e t d = slN e2 t d ∧ ∀ l m, slD e t d l m = slD e2 t d l m := by
  by_cases hd : ∃ r, d = .ref r
  · obtain ⟨r, rfl⟩ := hd
    have hr := h r (by simp [D.names])
    exact ⟨by cases t <;> simp [slN, hr], fun l m => by simp [slD, hr]⟩
  · refine ⟨?_, fun l m => ?_⟩
    · cases d <;> first | exact (hd ⟨_, rfl⟩).elim | (cases t <;> rfl)
    · cases d <;> first | exact (hd ⟨_, rfl⟩).elim | (cases t <;> rfl)
theorem pure_agree (h : agree np ops o e e2) (hk : allOk np ops o (objsOf e o)) (hn : ∀ c f, o.op = .call c → c.callee ≠ .value f) : pureV P e o.op = pureV P e2 o.op ∧ (pureOk P e o.op ↔ pureOk P e2 o.op) := by
  have hr : ∀ x, x ∈ o.op.operands.toList → rd e x = rd e2 x := fun x hx => h.rd hx
  have hob : ∀ r ∈ objsOf e o, e.o r = e2.o r := fun r hr => h.obj hk hr
  cases hop : o.op <;> simp only [pureV, pureOk] <;> (try exact ⟨rfl, Iff.rfl⟩) <;> (try exact ⟨trivial, trivial⟩) <;> rw [hop] at hr <;> simp only [objsOf, hop] at hob <;> simp only [Op.operands] at hr
  case move x => rw [hr x (by simp)]; exact ⟨rfl, trivial⟩
  case assign x => rw [hr x (by simp)]; exact ⟨rfl, trivial⟩
  case pick c a b => rw [hr c (by simp), hr a (by simp), hr b (by simp)]; exact ⟨rfl, Iff.rfl⟩
  case binOp op t x y yt => rw [hr x (by simp), hr y (by simp)]; exact ⟨rfl, Iff.rfl⟩
  case unOp op t x => rw [hr x (by simp)]; exact ⟨rfl, Iff.rfl⟩
  case convert s d x => rw [hr x (by simp)]; exact ⟨rfl, Iff.rfl⟩
  case fieldAddr t x f => rw [hr x (by simp)]; exact ⟨rfl, Iff.rfl⟩
  case field t x f => rw [hr x (by simp)]; exact ⟨rfl, Iff.rfl⟩
  case indexAddr t x i =>
    have := iaV_agree (t := tyT P t) (i := rd e i) hob
    rw [← hr x (by simp), ← hr i (by simp), this.1, this.2]
    exact ⟨rfl, Iff.rfl⟩
  case index t x i => rw [hr x (by simp), hr i (by simp)]; exact ⟨rfl, Iff.rfl⟩
  case load t a =>
    rw [← hr a (by simp)]
    cases layT P t with
    | none => exact ⟨rfl, Iff.rfl⟩
    | some l => simp only; exact ldV_agree hob
  case nilCheck x => rw [hr x (by simp)]; exact ⟨rfl, Iff.rfl⟩
  case extract x i => rw [hr x (by simp)]; exact ⟨rfl, Iff.rfl⟩
  case build t parts =>
    have hb : buildParts P e t parts.toList = buildParts P e2 t parts.toList := by
      unfold buildParts
      have hp : ∀ x ∈ parts.toList, rd e x.2 = rd e2 x.2 := by
        intro x hx
        refine hr x.2 ?_
        simp only [List.mem_map]
        exact ⟨x, hx, rfl⟩
      split
      · refine List.map_congr_left ?_
        intro x hx
        rw [hp x hx]
      · refine List.map_congr_left ?_
        intro x hx
        rw [hp x hx]
      · rfl
    unfold partsOk
    rw [hb]
    exact ⟨rfl, Iff.rfl⟩
  case slice t x lo hi mx =>
    have h1 := hr x (by simp)
    have h2 : ∀ d, slB e d lo = slB e2 d lo := by
      intro d
      cases lo with
      | none => rfl
      | some o => exact hr o (by simp)
    have h3 : ∀ d, slB e d hi = slB e2 d hi := by
      intro d
      cases hi with
      | none => rfl
      | some o => exact hr o (by simp)
    have h4 := slN_agree (t := tyT P t) hob
    cases mx with
    | none =>
      simp only [pureV, pureOk, slV, slOk]
      rw [← h1, h2, h3, h4.1, slC_agree h4.1]
      refine ⟨?_, Iff.rfl⟩
      split
      · exact h4.2 _ _
      · rfl
    | some m =>
      have h5 := hr m (by simp)
      cases lo <;> cases hi <;> simp only [pureV, pureOk] <;> (try exact ⟨trivial, trivial⟩) <;> (try exact ⟨trivial, Iff.rfl⟩)
      rename_i hh
      rw [h1, h5, hr hh (by simp)]
      exact ⟨trivial, Iff.rfl⟩
  case makeFunc fn first caps =>
    cases fn <;> simp only [pureV, pureOk] <;> (try exact ⟨trivial, trivial⟩) <;> (try exact ⟨trivial, Iff.rfl⟩)
    refine ⟨?_, trivial⟩
    congr 1
    refine List.map_congr_left ?_
    intro x hx
    exact hr x (by simp [hx])
  case call c =>
    have h1 : ∀ x ∈ c.args.toList, rd e x = rd e2 x := fun x hx => hr x (by simp only [Call.operands, Array.toList_append, List.mem_append]; exact .inr hx)
    have h2 : c.args.toList.map (rd e) = c.args.toList.map (rd e2) := List.map_congr_left h1
    have hcv : ∀ f, c.callee ≠ .value f := fun f => hn c f hop
    split
    · rename_i hcal hargs _
      rw [hcal] at hob
      simp only [hargs, List.map_cons, List.map_nil, D.namesL, List.append_nil] at hob
      have := h1 _ (by rw [hargs]; exact List.mem_singleton.2 rfl)
      rw [← this]
      exact lenV_agree hob
    · rw [h2]; exact ⟨rfl, Iff.rfl⟩
    · rw [h2]; exact ⟨rfl, Iff.rfl⟩
    · exact ⟨rfl, Iff.rfl⟩

theorem gval_agree (h : agree np ops o e e2) : gval ops e o.guard = gval ops e2 o.guard := by
  unfold gval
  cases hg : o.guard with
  | none => rfl
  | some p =>
    obtain ⟨j, w⟩ := p
    simp only
    cases hd : dstAt ops j with
    | none => rfl
    | some t =>
      simp only [rd]
      rw [h.1 t (by simp [rdT, hg, hd])]

theorem mem_nm16 {d : Nat} {hs' : List D} (h16 : hs'.length ≤ 16) {r : Nat} (h : r ∈ newsN d 0 (hs'.length - ([] : List Nat).length)) : r ∈ nm16 d := by
  obtain ⟨j, _, h2, rfl⟩ := newsN_mem h
  simp only [nm16, List.mem_map, List.mem_range]
  exact ⟨j, by simp at h2; omega, rfl⟩

/-- what the step does, and that it does so wherever what it reads is the same -/
def Splits (P : Program) (n np : Nat) (ops : List Oper) (o : Oper) (e : Env) (g : Bool) (K : Env → Prop) : Prop :=
  ∃ ft fo : Nat → Option D, (∀ s d, ft s = some d → s ∈ wrT o) ∧ (∀ s d, fo s = some d → s ∈ wrO np ops o) ∧ K (eff ft fo e) ∧
    ∀ e2, agree np ops o e e2 → ∀ K2 : Env → Prop, K2 (eff ft fo e2) → opK P n true o e2 g K2

theorem opD_split (hh : hard o = false) {g : Bool} {K : Env → Prop} (hk : g = true → allOk np ops o (objsOf e o)) (h : opK P n true o e g K) : Splits P n np ops o e g K := by
  have hopK : ∀ e K, opK P n true o e g K = opK0 P n true o e g K := fun e K => by simp [opK, hh]
  rw [hopK] at h
  have one_mem : ∀ (d : Nat) (x : D), o.dst = some d → ∀ s y, one d x s = some y → s ∈ wrT o := by
    intro d x hd s y hy
    unfold one at hy
    split at hy
    · rename_i e; subst e; simp [wrT, hd]
    · cases hy
  have no_mem : ∀ s (y : D), noEff s = some y → s ∈ wrO np ops o := fun s y h => by cases h
  -- a step that only sets its slot
  have simple : ∀ (d : Nat) (x : D), o.dst = some d → K (updT e d x) → (∀ e2, agree np ops o e e2 → ∀ K2 : Env → Prop, K2 (updT e2 d x) → opK P n true o e2 g K2) → Splits P n np ops o e g K := by
    intro d x hd hK hh
    refine ⟨one d x, noEff, one_mem d x hd, no_mem, by rw [← eff_T]; exact hK, ?_⟩
    intro e2 hag K2 hK2
    exact hh e2 hag K2 (by rw [eff_T]; exact hK2)
  -- a step that makes one object
  have maker : ∀ (d : Nat) (x y : D), o.dst = some d → makes o.op = true → K (updT (updO e (nm d 0) y) d x) → (∀ e2, agree np ops o e e2 → ∀ K2 : Env → Prop, K2 (updT (updO e2 (nm d 0) y) d x) → opK P n true o e2 g K2) → Splits P n np ops o e g K := by
    intro d x y hd hm hK hh
    refine ⟨one d x, one (nm d 0) y, one_mem d x hd, ?_, by rw [← eff_TO]; exact hK, ?_⟩
    · intro s z hz
      unfold one at hz
      split at hz
      · rename_i e
        subst e
        simp only [wrO, hd, hm, if_true]
        exact List.mem_append_left _ (by simp only [nm16, List.mem_map, List.mem_range]; exact ⟨0, by omega, rfl⟩)
      · cases hz
    · intro e2 hag K2 hK2
      exact hh e2 hag K2 (by rw [eff_TO]; exact hK2)
  have hfr : ∀ (d : Nat), o.dst = some d → makes o.op = true → ∀ e2, agree np ops o e e2 → ∀ r ∈ nm16 d, e.o r = e2.o r := by
    intro d hd hm e2 hag r hr
    refine hag.2 r (.inr (.inl ?_))
    simp only [wrO, hd, hm, if_true]
    exact List.mem_append_left _ hr
  have h0 : ∀ d, nm d 0 ∈ nm16 d := fun d => by simp only [nm16, List.mem_map, List.mem_range]; exact ⟨0, by omega, rfl⟩
  cases hd : o.dst with
  | none =>
    cases hop : o.op <;> simp only [opK0, hop, hd] at h <;> try exact h.elim
    rename_i t a x
    obtain ⟨hg, h⟩ := h
    have hk' := hk hg
    simp only [Norm] at h
    have hra : ∀ e2, agree np ops o e e2 → rd e a = rd e2 a ∧ rd e x = rd e2 x := fun e2 hag => ⟨hag.rd (by simp [hop, Op.operands]), hag.rd (by simp [hop, Op.operands])⟩
    have hin : ∀ r ∈ (rd e a).names, r ∈ wrO np ops o := by
      intro r hr
      have := allOk_mem hk' r (by simp only [objsOf, hop]; exact hr)
      unfold okName at this
      rw [hop] at this
      exact List.contains_iff_mem.1 this
    have setO : ∀ (r : Nat) (y : D), r ∈ (rd e a).names → K (updO e r y) → (∀ e2, agree np ops o e e2 → ∀ K2 : Env → Prop, K2 (updO e2 r y) → opK P n true o e2 g K2) → Splits P n np ops o e g K := by
      intro r y hr hK hh
      refine ⟨noEff, one r y, (fun s d h => by cases h), ?_, (by rw [← eff_O]; exact hK), ?_⟩
      · intro s z hz
        unfold one at hz
        split at hz
        · rename_i e; subst e; exact hin _ hr
        · cases hz
      · intro e2 hag K2 hK2
        exact hh e2 hag K2 (by rw [eff_O]; exact hK2)
    unfold StK at h
    cases ha : rd e a <;> rw [ha] at h <;> try exact h.elim
    · rename_i r off
      simp only at h
      unfold StB at h
      cases ho : e.o r <;> rw [ho] at h <;> try exact h.elim
      rename_i cs
      simp only at h
      cases hl : layT P t with
      | none => rw [hl] at h; exact h.elim
      | some l =>
        rw [hl] at h
        obtain ⟨q1, q2, q3, hK⟩ := h
        refine setO r _ (by rw [ha]; simp [D.names]) hK ?_
        intro e2 hag K2 hK2
        obtain ⟨ea, ex⟩ := hra e2 hag
        have er : e.o r = e2.o r := hag.2 r (.inr (.inl (hin r (by rw [ha]; simp [D.names]))))
        simp only [hopK, opK0, hop, hd, Norm]
        refine ⟨hg, ?_⟩
        rw [← ea, ← ex, ha]
        simp only [StK]
        rw [← er, ho]
        simp only [StB, hl]
        exact ⟨q1, q2, q3, hK2⟩
    · rename_i r z i k
      simp only at h
      unfold StO at h
      cases ho : e.o r <;> rw [ho] at h <;> try exact h.elim
      rename_i z' rows
      simp only at h
      cases hl : layT P t with
      | none => rw [hl] at h; exact h.elim
      | some l =>
        rw [hl] at h
        obtain ⟨q1, q2, q3, q4, q5, hK⟩ := h
        refine setO r _ (by rw [ha]; simp [D.names]) hK ?_
        intro e2 hag K2 hK2
        obtain ⟨ea, ex⟩ := hra e2 hag
        have er : e.o r = e2.o r := hag.2 r (.inr (.inl (hin r (by rw [ha]; simp [D.names]))))
        simp only [hopK, opK0, hop, hd, Norm]
        refine ⟨hg, ?_⟩
        rw [← ea, ← ex, ha]
        simp only [StK]
        rw [← er, ho]
        simp only [StO, hl]
        exact ⟨q1, q2, q3, q4, q5, hK2⟩
  | some d =>
    have pureCase : (∀ c f, o.op = .call c → c.callee ≠ .value f) → (∀ e' K', opK P n true o e' g K' ↔ (d < n ∧ StepK g (pureOk P e' o.op) (pureV P e' o.op) fun u => K' (updT e' d u))) → Splits P n np ops o e g K := by
      intro hn heq
      obtain ⟨hdn, hok, hK⟩ := (heq e K).1 (by rw [hopK]; exact h)
      refine simple d _ hd hK ?_
      intro e2 hag K2 hK2
      refine (heq e2 K2).2 ⟨hdn, ?_, ?_⟩
      · intro hg
        exact (pure_agree (P := P) hag (hk hg) hn).2.1 (hok hg)
      · cases g with
        | false => exact hK2
        | true =>
          have := (pure_agree (P := P) hag (hk rfl) hn).1
          simp only [gd, if_true] at hK2 ⊢
          rw [← this]; exact hK2
    cases hop : o.op
    case box T x =>
      simp only [opK0, hop, hd] at h
      obtain ⟨hg, hdn, q1, q2, hK⟩ := h
      refine maker d _ _ hd (by rw [hop]; rfl) hK ?_
      intro e2 hag K2 hK2
      simp only [hopK, opK0, hop, hd, Norm]
      refine ⟨hg, hdn, ?_⟩
      rw [← hag.rd (by simp [hop, Op.operands] : x ∈ o.op.operands.toList)]
      exact ⟨q1, by rw [← hfr d hd (by rw [hop]; rfl) e2 hag _ (h0 d)]; exact q2, hK2⟩
    case alloc T =>
      simp only [opK0, hop, hd] at h
      obtain ⟨hg, hdn, h⟩ := h
      cases hz : zeroT P T with
      | none => rw [hz] at h; exact h.elim
      | some z =>
        rw [hz] at h
        obtain ⟨q2, hK⟩ := h
        refine maker d _ _ hd (by rw [hop]; rfl) hK ?_
        intro e2 hag K2 hK2
        simp only [hopK, opK0, hop, hd, hz]
        exact ⟨hg, hdn, by rw [← hfr d hd (by rw [hop]; rfl) e2 hag _ (h0 d)]; exact q2, hK2⟩
    case buildSlice t len parts =>
      simp only [opK0, hop, hd] at h
      obtain ⟨hdn, h⟩ := h
      have hp : ∀ e2, agree np ops o e e2 → ∀ x ∈ parts.toList, rd e x.2 = rd e2 x.2 := fun e2 hag x hx => hag.rd (by simp only [hop, Op.operands, Array.toList_map, List.mem_map]; exact ⟨x, hx, rfl⟩)
      have hbn : ∀ e2, agree np ops o e e2 → bsNames e parts.toList = bsNames e2 parts.toList := by
        intro e2 hag
        unfold bsNames
        congr 1
        exact List.map_congr_left fun x hx => hp e2 hag x hx
      cases g with
      | false =>
        refine simple d _ hd (h.2 rfl) ?_
        intro e2 hag K2 hK2
        simp only [hopK, opK0, hop, hd]
        exact ⟨hdn, fun h => (Bool.false_ne_true h).elim, fun _ => hK2⟩
      | true =>
        obtain ⟨hnil, hb⟩ := h.1 rfl
        have hnil := hnil trivial
        rw [hnil] at hb
        simp only [frzEL] at hb
        unfold BsK at hb
        split at hb <;> try exact hb.elim
        rename_i z by_ ea zc hT hzc
        obtain ⟨q1, q2, q3, q4, q5, hK⟩ := hb
        refine maker d _ _ hd (by rw [hop]; rfl) hK ?_
        intro e2 hag K2 hK2
        have hbs : ∀ z, bsParts e z parts.toList = bsParts e2 z parts.toList := fun z => List.map_congr_left fun x hx => by rw [hp e2 hag x hx]
        simp only [hopK, opK0, hop, hd]
        refine ⟨hdn, fun _ => ⟨fun _ => by rw [← hbn e2 hag]; exact hnil, ?_⟩, fun h => by cases h⟩
        rw [← hbn e2 hag, hnil]
        simp only [frzEL, BsK, hT, hzc]
        simp only [bsCells, ← hbs] at q3 q4 ⊢
        exact ⟨q1, q2, q3, q4, by rw [← hfr d hd (by rw [hop]; rfl) e2 hag _ (h0 d)]; exact q5, hK2⟩
    case makeSlice t l c =>
      simp only [opK0, hop, hd] at h
      obtain ⟨hdn, h⟩ := h
      cases g with
      | false =>
        refine simple d _ hd (h.2 rfl) ?_
        intro e2 hag K2 hK2
        simp only [hopK, opK0, hop, hd]
        exact ⟨hdn, fun h => (Bool.false_ne_true h).elim, fun _ => hK2⟩
      | true =>
        have hm := h.1 rfl
        unfold MkK at hm
        split at hm <;> try exact hm.elim
        rename_i z by_ ea k1 n1 k2 m1 zc hT hl hc hzc
        obtain ⟨q1, q2, q3, q4, q5, q6, q7, hK⟩ := hm
        refine maker d _ _ hd (by rw [hop]; rfl) hK ?_
        intro e2 hag K2 hK2
        simp only [hopK, opK0, hop, hd]
        refine ⟨hdn, fun _ => ?_, fun h => by cases h⟩
        rw [← hag.rd (by simp [hop, Op.operands] : l ∈ o.op.operands.toList), ← hag.rd (by simp [hop, Op.operands] : c ∈ o.op.operands.toList), hl, hc]
        simp only [MkK, hT, hzc]
        exact ⟨q1, q2, q3, q4, q5, q6, by rw [← hfr d hd (by rw [hop]; rfl) e2 hag _ (h0 d)]; exact q7, hK2⟩
    case call c =>
      cases hcal : c.callee with
      | invoke r m => simp only [opK0, hop, hd, hcal] at h; exact h.2.elim
      | builtin b =>
        by_cases hb : b = .append
        · subst hb
          simp only [opK0, hop, hd, hcal] at h
          exact (Bool.false_ne_true h.2.2.1.symm).elim
        · refine pureCase (fun c' f' e' hf => by rw [hop] at e'; cases e'; rw [hcal] at hf; cases hf) ?_
          intro e' K'
          simp only [hopK, opK0, hop, hd, hcal]
      | value f =>
        simp only [opK0, hop, hd, hcal] at h
        obtain ⟨hdn, h⟩ := h
        cases g with
        | false =>
          refine simple d _ hd (h.2 rfl) ?_
          intro e2 hag K2 hK2
          simp only [hopK, opK0, hop, hd, hcal]
          exact ⟨hdn, fun h => (Bool.false_ne_true h).elim, fun _ => hK2⟩
        | true =>
          obtain ⟨fz, gs, bw, hs', dv, hdr, hc⟩ := (h.1 rfl).elim id (fun h => (Bool.false_ne_true h.1.symm).elim)
          obtain ⟨rfl, rfl⟩ := hdr rfl
          simp only [frzEL] at hc
          unfold CallA at hc
          split at hc <;> try exact hc.elim
          rename_i k caps hf
          obtain ⟨q1, q2, q3, q4, q5, q6, q7⟩ := hc
          have q7 := q7.drawn
          have hm : makes o.op = true := by rw [hop]; simp [makes, hcal]
          have hns : ∀ r ∈ callNs d [] hs', r ∈ nm16 d := fun r hr => mem_nm16 (by simpa using q4.2) (by simpa [callNs] using hr)
          have hob := hk rfl
          simp only [objsOf, hop, hcal] at hob
          refine ⟨one d (dv.ren (at? (callNs d [] hs'))), zipE (at? (callNs d [] hs')) (callNs d [] hs') hs', one_mem d _ hd, ?_, by rw [← postE_eff]; exact q7, ?_⟩
          · intro s x hx
            simp only [wrO, hd, hm, if_true]
            exact List.mem_append_left _ (hns s (zipE_mem hx))
          · intro e2 hag K2 hK2
            have hob2 : ∀ r ∈ reach e.o 4 (D.namesL (rd e f :: c.args.toList.map (rd e))), e.o r = e2.o r := by
              intro r hr
              have := hag.obj (hk rfl) (r := r) (by simp only [objsOf, hop, hcal]; exact hr)
              exact this
            have hf2 : rd e f = rd e2 f := hag.rd (by simp [hop, Op.operands, Call.operands, hcal])
            have ha2 : c.args.toList.map (rd e) = c.args.toList.map (rd e2) := List.map_congr_left fun x hx => hag.rd (by simp only [hop, Op.operands, Call.operands, Array.toList_append, List.mem_append]; exact .inr hx)
            simp only [hopK, opK0, hop, hd, hcal]
            refine ⟨hdn, fun _ => .inl ⟨[], [], bw, hs', dv, fun _ => ⟨rfl, rfl⟩, ?_⟩, fun h => by cases h⟩
            simp only [frzEL]
            rw [← hf2, hf]
            simp only [CallA]
            refine ⟨q1, (fun r hr => by cases hr), ?_, q4, q5, ?_, (.inl (by rw [postE_eff]; exact hK2))⟩
            · intro r hr
              rw [← hfr d hd hm e2 hag r (mem_nm16 (by simpa using q4.2) hr)]
              exact q3 r hr
            · rw [← ha2]
              have : ((c.args.toList.map (rd e) ++ caps).map (conv bw [] e2.o 4)) = (c.args.toList.map (rd e) ++ caps).map (conv bw [] e.o 4) := by
                refine List.map_congr_left ?_
                intro x hx
                refine (conv_agree bw 4 x ?_).symm
                intro r hr
                refine hob2 r (reach_sub e.o 4 _ _ ?_ r hr)
                intro s hs
                rw [hf]
                simp only [D.namesL, D.names, List.mem_append]
                rcases List.mem_append.1 hx with hx | hx
                · exact .inr (namesL_mem.2 ⟨x, hx, hs⟩)
                · exact .inl (namesL_mem.2 ⟨x, hx, hs⟩)
              rw [this]
              exact q6
    all_goals
      refine pureCase (fun c' f' e' hf => by rw [hop] at e'; cases e') ?_
      intro e' K'
      simp only [hopK, opK0, hop, hd]

theorem hard_of {o : Oper} (hh : hardD o = false) : hard o = false := by
  unfold hardD at hh
  cases h : hard o with
  | false => rfl
  | true => rw [h] at hh; simp at hh
theorem reach_agree {e e2 : Env} : ∀ (k : Nat) (ns : List Nat), (∀ r ∈ reach e.o k ns, e.o r = e2.o r) → reach e2.o k ns = reach e.o k ns := by
  intro k
  induction k with
  | zero => intro ns _; rfl
  | succ k ih =>
    intro ns hh
    simp only [reach] at hh ⊢
    have e1 : ns.map e2.o = ns.map e.o := List.map_congr_left fun r hr => (hh r (List.mem_append_left _ hr)).symm
    rw [e1, ih _ fun r hr => hh r (List.mem_append_right _ hr)]
theorem softK_split (hs : softO ops o = true) {K : Env → Prop} (h : softK P n np ops o e K) :
    ∃ ft fo : Nat → Option D, (∀ s d, ft s = some d → s ∈ wrT o) ∧ (∀ s d, fo s = some d → s ∈ wrO np ops o) ∧ K (eff ft fo e) ∧
      ∀ e2, agree np ops o e e2 → ∀ K2 : Env → Prop, K2 (eff ft fo e2) → softK P n np ops o e2 K2 := by
  have one_mem : ∀ (d : Nat) (x : D), o.dst = some d → ∀ s y, one d x s = some y → s ∈ wrT o := by
    intro d x hd s y hy
    unfold one at hy
    split at hy
    · rename_i e; subst e; simp [wrT, hd]
    · cases hy
  have h0 : ∀ d, nm d 0 ∈ nm16 d := fun d => by simp only [nm16, List.mem_map, List.mem_range]; exact ⟨0, by omega, rfl⟩
  have hfr : ∀ (d : Nat), o.dst = some d → makes o.op = true → nm d 0 ∈ wrO np ops o := by
    intro d hd hm
    simp only [wrO, hd, hm, if_true]
    exact List.mem_append_left _ (h0 d)
  obtain ⟨hg, hs | hs⟩ := soft_or hs
  · obtain ⟨t, len, ps, d, hop, hd, hl, hp⟩ := hs
    have hm : makes o.op = true := by rw [hop]; rfl
    unfold softK at h
    rw [hop, hd] at h
    obtain ⟨hdn, h⟩ := h
    unfold Emp0 at h
    split at h
    · rename_i z b a hT
      refine ⟨one d .emp, noEff, one_mem d _ hd, (fun s y h => by cases h), by rw [← eff_T]; exact h.2, ?_⟩
      intro e2 hag K2 hK2
      unfold softK
      rw [hop, hd]
      refine ⟨hdn, ?_⟩
      unfold Emp0
      rw [hT]
      exact ⟨by rw [← hag.2 _ (.inr (.inl (hfr d hd hm)))]; exact h.1, by rw [eff_T]; exact hK2⟩
    · exact h.elim
  · have hc : ∃ c, o.op = .call c ∧ c.callee = .builtin .append := by
      unfold isApp at hs
      split at hs
      · rename_i c hop
        split at hs
        · rename_i hc; exact ⟨c, hop, hc⟩
        · cases hs
      · cases hs
    obtain ⟨c, hop, hc⟩ := hc
    have hm : makes o.op = true := by rw [hop]; simp [makes, hc]
    unfold softK at h
    rw [hop] at h
    cases hd : o.dst with
    | none => rw [hd] at h; exact h.elim
    | some d =>
      rw [hd] at h
      obtain ⟨hdn, h⟩ := h
      split at h <;> try exact h.elim
      rename_i x y T T2 hargs htys
      obtain ⟨hok, h⟩ := h
      unfold AppS at h
      split at h <;> try exact h.elim
      rename_i z by_ ea z2 by2 ea2 hx hT hT2
      obtain ⟨hby, h⟩ := h
      unfold AppF at h
      split at h <;> try exact h.elim
      rename_i rows2 hr
      obtain ⟨q1, q2, q3⟩ := h
      refine ⟨one d (.ref (nm d 0)), one (nm d 0) (.own z rows2), one_mem d _ hd, ?_, by rw [← eff_TO]; exact q3, ?_⟩
      · intro s u hu
        unfold one at hu
        split at hu
        · rename_i e; subst e; exact hfr d hd hm
        · cases hu
      · intro e2 hag K2 hK2
        have hin : ∀ u ∈ [x, y], rd e u = rd e2 u := fun u hu => hag.rd (by simp only [hop, Op.operands, Call.operands, Array.toList_append, List.mem_append]; exact .inr (by rw [hargs]; exact hu))
        have hob : ∀ r ∈ reach e.o 2 (rd e y).names, e.o r = e2.o r := by
          intro r hr
          have := allOk_mem hok r hr
          unfold okName at this
          rw [hop] at this
          simp only [Bool.or_eq_true, Bool.not_eq_true', List.contains_eq_mem, decide_eq_true_eq, decide_eq_false_iff_not] at this
          refine hag.2 r ?_
          rcases this with h | h
          · exact .inl h
          · exact .inr (.inr h)
        have hy2 := hin y (by simp)
        have hx2 := hin x (by simp)
        unfold softK
        rw [hop, hd]
        refine ⟨hdn, ?_⟩
        simp only [hargs, htys]
        refine ⟨by rw [← hy2, reach_agree 2 _ hob]; exact hok, ?_⟩
        rw [← hx2, ← hy2, hx, hT, hT2]
        refine ⟨hby, ?_⟩
        rw [← bor_agree [] 2 _ hob, hr]
        exact ⟨q1, by rw [← hag.2 _ (.inr (.inl (hfr d hd hm)))]; exact q2, by rw [eff_TO]; exact hK2⟩
theorem wpOpD_split (hh : hardS ops o = false) {K : Env → Prop} (h : wpOpD P n np ops o e K) :
    ∃ ft fo : Nat → Option D, (∀ s d, ft s = some d → s ∈ wrT o) ∧ (∀ s d, fo s = some d → s ∈ wrO np ops o) ∧ K (eff ft fo e) ∧
      ∀ e2, agree np ops o e e2 → ∀ K2 : Env → Prop, K2 (eff ft fo e2) → wpOpD P n np ops o e2 K2 := by
  unfold wpOpD at h
  cases hg : gval ops e o.guard with
  | none => rw [hg] at h; exact h.elim
  | some g =>
    rw [hg] at h
    by_cases hs : softO ops o = true
    · simp only [hs, if_true] at h
      obtain ⟨ft, fo, h1, h2, h3, h4⟩ := softK_split hs h
      refine ⟨ft, fo, h1, h2, h3, fun e2 hag K2 hK2 => ?_⟩
      unfold wpOpD
      rw [← gval_agree hag, hg]
      simp only [hs, if_true]
      exact h4 e2 hag K2 hK2
    have hsf : softO ops o = false := by simpa using hs
    have hh : hardD o = false := by simpa [hardS, hsf] using hh
    simp only [hsf, hh, Bool.false_eq_true, if_false] at h
    obtain ⟨hk, h⟩ := h
    obtain ⟨ft, fo, h1, h2, h3, h4⟩ := opD_split (hard_of hh) hk h
    refine ⟨ft, fo, h1, h2, h3, fun e2 hag K2 hK2 => ?_⟩
    unfold wpOpD
    rw [← gval_agree hag, hg]
    simp only [hsf, hh, Bool.false_eq_true, if_false]
    refine ⟨fun hgt => ?_, h4 e2 hag K2 hK2⟩
    -- what is reached is the same
    have hk' := hk hgt
    have : objsOf e2 o = objsOf e o := by
      have hr : ∀ x, x ∈ o.op.operands.toList → rd e x = rd e2 x := fun x hx => hag.rd hx
      unfold objsOf
      cases hop : o.op <;> rw [hop] at hr <;> simp only [Op.operands] at hr <;> try rfl
      case load t a => simp only; rw [hr a (by simp)]
      case store t a x => simp only; rw [hr a (by simp)]
      case indexAddr t x i => simp only; rw [hr x (by simp)]
      case slice t x lo hi mx => simp only; rw [hr x (by simp)]
      case call c =>
        have h2 : c.args.toList.map (rd e) = c.args.toList.map (rd e2) := List.map_congr_left fun x hx => hr x (by simp only [Call.operands, Array.toList_append, List.mem_append]; exact .inr hx)
        cases hcal : c.callee with
        | builtin b => simp only [hcal]; rw [h2]
        | invoke r m => simp only [hcal]; rw [h2]
        | value f =>
          simp only [hcal]
          rw [hr f (by simp [Call.operands, hcal]), h2]
          -- reached objects hold the same
          have key : ∀ (k : Nat) (ns : List Nat), (∀ r ∈ reach e.o k ns, e.o r = e2.o r) → reach e2.o k ns = reach e.o k ns := by
            intro k
            induction k with
            | zero => intro ns _; rfl
            | succ k ih =>
              intro ns hh
              simp only [reach] at hh ⊢
              have e1 : ns.map e2.o = ns.map e.o := List.map_congr_left fun r hr => (hh r (List.mem_append_left _ hr)).symm
              rw [e1, ih _ fun r hr => hh r (List.mem_append_right _ hr)]
          refine key 4 _ ?_
          intro r hr'
          refine hag.obj hk' (r := r) ?_
          simp only [objsOf, hop, hcal]
          rw [hr f (by simp [Call.operands, hcal]), h2]
          exact hr'
    rw [this]
    exact hk'

theorem wrO_wAll {x : Oper} (hx : x ∈ ops) {r : Nat} (hr : r ∈ wrO np ops x) : r ∈ wAll np ops := List.mem_flatMap.2 ⟨x, hx, hr⟩
theorem eff_comm {ft fo ft2 fo2 : Nat → Option D} (h1 : ∀ s d d2, ft s = some d → ft2 s = some d2 → False) (h2 : ∀ s d d2, fo s = some d → fo2 s = some d2 → False) (e : Env) : eff ft fo (eff ft2 fo2 e) = eff ft2 fo2 (eff ft fo e) := by
  simp only [eff, Env.mk.injEq]
  refine ⟨?_, ?_⟩ <;> funext j
  · cases hf : ft j <;> cases hg : ft2 j <;> simp
    exact (h1 j _ _ hf hg).elim
  · cases hf : fo j <;> cases hg : fo2 j <;> simp
    exact (h2 j _ _ hf hg).elim

theorem wpOpD_comm {x y : Oper} (hhx : hardS ops x = false) (hhy : hardS ops y = false) (hxo : x ∈ ops) (hyo : y ∈ ops) {K : Env → Prop} (ha : apartS np ops x y = true) (h : wpOpD P n np ops x e fun e1 => wpOpD P n np ops y e1 K) :
    wpOpD P n np ops y e fun e2 => wpOpD P n np ops x e2 K := by
  obtain ⟨ft, fo, h1, h2, h3, hx⟩ := wpOpD_split hhx h
  obtain ⟨gt, go, k1, k2, k3, hy⟩ := wpOpD_split hhy h3
  simp only [apartS, Bool.and_eq_true, List.all_eq_true, Bool.not_eq_true', List.contains_eq_mem, decide_eq_false_iff_not] at ha
  obtain ⟨⟨⟨a1, a2⟩, a3⟩, a4⟩ := ha
  refine hy e ⟨?_, ?_⟩ _ ?_
  · intro s hs
    show (ft s).getD (e.t s) = e.t s
    cases hf : ft s with
    | none => rfl
    | some d => exact ((a1 s (h1 s d hf)).1 hs).elim
  · intro r hr
    show (fo r).getD (e.o r) = e.o r
    cases hf : fo r with
    | none => rfl
    | some d =>
      have hw := h2 r d hf
      rcases hr with hr | hr | hr
      · exact ((a3 r hw).1 hr).elim
      · exact ((a3 r hw).2 hr).elim
      · exact (hr (wrO_wAll hxo hw)).elim
  · refine hx _ ⟨?_, ?_⟩ _ ?_
    · intro s hs
      show e.t s = (gt s).getD (e.t s)
      cases hf : gt s with
      | none => rfl
      | some d => exact (a2 s (k1 s d hf) hs).elim
    · intro r hr
      show e.o r = (go r).getD (e.o r)
      cases hf : go r with
      | none => rfl
      | some d =>
        have hw := k2 r d hf
        rcases hr with hr | hr | hr
        · exact (a4 r hw hr).elim
        · exact ((a3 r hr).2 hw).elim
        · exact (hr (wrO_wAll hyo hw)).elim
    · rw [eff_comm]
      · exact k3
      · intro s d d2 e1 e2'
        exact (a1 s (h1 s d e1)).2 (k1 s d2 e2')
      · intro s d d2 e1 e2'
        exact (a3 s (h2 s d e1)).2 (k2 s d2 e2')

theorem wpOpD_mono {K K' : Env → Prop} (h : wpOpD P n np ops o e K) (hk : ∀ e, K e → K' e) : wpOpD P n np ops o e K' := by
  unfold wpOpD at h ⊢
  cases hg : gval ops e o.guard with
  | none => rw [hg] at h; exact h.elim
  | some g =>
    rw [hg] at h
    simp only at h ⊢
    split at h
    · rename_i hs; rw [if_pos hs]; exact softK_mono hk h
    rename_i hs
    rw [if_neg hs]
    split at h
    · rename_i hh
      rw [if_pos hh]
      split at h
      · rename_i ha; rw [if_pos ha]; exact appA_mono hk h
      · rename_i ha; rw [if_neg ha]; exact opK_mono hk h
    · rename_i hh; rw [if_neg hh]; exact ⟨h.1, opK_mono hk h.2⟩

/-- a copy of a slot and an append -/
theorem wpOpD_app {x y : Oper} {K : Env → Prop} (hm : mvApp x y = true) (hsy : softO ops y = false) (hsx : softO ops x = false) (h : wpOpD P n np ops x e fun e1 => wpOpD P n np ops y e1 K) : wpOpD P n np ops y e fun e2 => wpOpD P n np ops x e2 K := by
  unfold mvApp at hm
  split at hm <;> try cases hm
  rename_i u dx hop hdst hgu
  simp only [Bool.and_eq_true, Bool.not_eq_true', Option.isNone_iff_eq_none, bne_iff_ne] at hm
  obtain ⟨⟨⟨⟨ha, hg⟩, hc⟩, hd1⟩, hd2⟩ := hm
  have hx0 : hardD x = false := by simp [hardD, hard, isApp, isPtrC, hop]
  have hy1 : hardD y = true := by simp [hardD, ha]
  have hxh : hard x = false := by simp [hard, hop]
  have ex : ∀ (e : Env) (K : Env → Prop), wpOpD P n np ops x e K ↔ (dx < n ∧ K (updT e dx (e.t u))) := by
    intro e K
    have hob : objsOf e x = [] := by simp [objsOf, hop]
    simp only [wpOpD, hsx, hgu, gval, hx0, Bool.false_eq_true, if_false, opD, hob, allOk, opK, hxh, opK0, hop, hdst, StepK, pureOk, pureV, gd, if_true, rd]
    simp
  have ey : ∀ (e : Env) (K : Env → Prop), wpOpD P n np ops y e K ↔ appA P n y e true K := by
    intro e K
    simp only [wpOpD, hsy, hg, gval, hy1, ha, Bool.false_eq_true, if_false, if_true]
  rw [ex] at h
  rw [ey] at h ⊢
  refine appA_mono ?_ (appA_move hc hd1 hd2 h.2)
  intro e2 h2
  rw [ex]
  exact ⟨h.1, h2⟩
def wpIdxD (P : Program) (n np : Nat) (ops : Array Oper) : List Nat → Env → (Env → Prop) → Prop
  | [], e, K => K e
  | i :: r, e, K => match ops[i]? with
    | some o => wpOpD P n np ops.toList o e fun e' => wpIdxD P n np ops r e' K
    | none => wpIdxD P n np ops r e K
theorem wpIdxD_front {ops : Array Oper} {i : Nat} {y : Oper} (hy : ops[i]? = some y) : ∀ (pre post : List Nat) (e : Env) (K : Env → Prop), (∀ j ∈ pre, ∀ x, ops[j]? = some x → (hardS ops.toList x = false ∧ hardS ops.toList y = false ∧ apartS np ops.toList x y = true) ∨ (mvApp x y = true ∧ softO ops.toList y = false ∧ softO ops.toList x = false)) →
    wpIdxD P n np ops (pre ++ i :: post) e K → wpIdxD P n np ops (i :: (pre ++ post)) e K
  | [], _, _, _, _, h => h
  | j :: pre, post, e, K, ha, h => by
    simp only [List.cons_append, wpIdxD] at h ⊢
    have ih := fun e' => wpIdxD_front hy pre post e' K (fun k hk => ha k (List.mem_cons_of_mem _ hk))
    simp only [hy]
    cases hj : ops[j]? with
    | none =>
      rw [hj] at h
      have := ih e h
      simp only [wpIdxD, hy] at this
      simpa [hj] using this
    | some x =>
      rw [hj] at h
      simp only at h ⊢
      have h2 : wpOpD P n np ops.toList x e fun e1 => wpOpD P n np ops.toList y e1 fun e' => wpIdxD P n np ops (pre ++ post) e' K := by
        refine wpOpD_mono h ?_
        intro e' h'
        have := ih e' h'
        simpa only [wpIdxD, hy] using this
      have mem : ∀ {k : Nat} {z : Oper}, ops[k]? = some z → z ∈ ops.toList := by
        intro k z hz
        exact List.mem_of_getElem? (i := k) (by simpa using hz)
      rcases ha j (by simp) x hj with ⟨a1, a2, a3⟩ | ⟨ha, hb, hc⟩
      · exact wpOpD_comm a1 a2 (mem hj) (mem hy) a3 h2
      · exact wpOpD_app ha hb hc h2
theorem wpIdxD_range {ops : Array Oper} : ∀ (l : List Oper) (k : Nat) (e : Env) (K : Env → Prop), ops.toList.drop k = l → wpListD P n np ops.toList l e K → wpIdxD P n np ops (List.range' k l.length) e K
  | [], _, _, _, _, h => h
  | o :: l, k, e, K, hd, h => by
    have hk : ops[k]? = some o := by
      have : (ops.toList.drop k)[0]? = some o := by rw [hd]; rfl
      rw [List.getElem?_drop] at this
      simpa using this
    have hd' : ops.toList.drop (k + 1) = l := by
      rw [← List.drop_drop, hd]; rfl
    simp only [List.length_cons, List.range'_succ, wpIdxD, hk]
    refine wpOpD_mono h ?_
    intro e' h'
    exact wpIdxD_range l (k + 1) e' K hd' h'
end
end Go.Abs
