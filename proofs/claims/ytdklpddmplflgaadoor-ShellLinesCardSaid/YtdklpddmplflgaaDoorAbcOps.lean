/- Operations that only compute or read; no theorem of a claim. -/
import Derived.Test.YtdklpddmplflgaaDoorAbcApp
import Derived.Test.YtdklpddmplflgaaDoorAbcEq
set_option linter.unusedSimpArgs false
set_option linter.unusedVariables false
namespace Go.Abs

def buildParts (P : Program) (e : Env) (t : TypeId) (parts : List (Nat × Operand)) : List (Nat × Nat × D) :=
  match tyT P t with
  | .struct fs => parts.map fun x => match fs[x.1]? with
    | some f => (f.off, f.sz, rd e x.2)
    | none => (0, 0, .undef)
  | .arr _ z _ => parts.map fun x => (x.1 * z, z, rd e x.2)
  | _ => []
def partsOk (P : Program) (e : Env) (t : TypeId) (parts : List (Nat × Operand)) : Prop :=
  (match tyT P t with
  | .struct fs => ∀ x ∈ parts, x.1 < fs.length
  | .arr _ _ _ => True
  | _ => False) ∧ ∃ z, zeroT P t = some z ∧ fillOk z.length (buildParts P e t parts)


def ownLenV : D → D
  | .own _ rows => .int .i64 rows.length
  | _ => .undef
def ownLenOk : D → Prop
  | .own _ _ => True
  | _ => False
def lenS (e : Env) : D → D
  | .sl _ rows => .int .i64 rows.length
  | .nil => .int .i64 0
  | .emp => .int .i64 0
  | .ref r => ownLenV (e.o r)
  | .osub _ _ _ len => .int .i64 len
  | .bsub _ _ _ len _ => .int .i64 len
  | .str s => .int .i64 s.size
  | _ => .undef
def lenV (e : Env) (t : Ty) (d : D) : D :=
  match t with
  | .arr n _ _ => .int .i64 n
  | _ => lenS e d
def lenSOk (e : Env) : D → Prop
  | .sl _ _ | .nil | .emp | .osub _ _ _ _ | .bsub _ _ _ _ _ => True
  | .ref r => ownLenOk (e.o r)
  | _ => False
def isStr : D → Prop
  | .str _ => True
  | _ => False
def lenOk (e : Env) (t : Ty) (d : D) : Prop :=
  match t with
  | .slice _ _ _ => lenSOk e d
  | .str => isStr d
  | .arr _ _ _ => True
  | _ => False
def max2D : D → D → D
  | .int k x, .int _ y => .int k (if y > x then y else x)
  | _, _ => .undef
def min2D : D → D → D
  | .int k x, .int _ y => .int k (if y < x then y else x)
  | _, _ => .undef
def intsOk : List D → Prop
  | [] => True
  | .int _ _ :: r => intsOk r
  | _ :: _ => False
def foldD (f : D → D → D) : List D → D
  | [] => .undef
  | x :: r => r.foldl f x


/-- a bound of a slice expression -/
def slB (e : Env) (dflt : Int) : Option Operand → D
  | some x => rd e x
  | none => .int .i64 dflt
/-- the part of x from l to h -/
def slD (e : Env) (t : Ty) (x : D) (l h : Nat) : D :=
  match x with
  | .sl z rows => .sl z ((rows.take h).drop l)
  | .str s => .str (s.extract l h)
  | .nil => .nil
  | .emp => .emp
  | .ref r => match e.o r with
    | .own z _ => .osub r z l (h - l)
    | _ => .undef
  | .osub r z lo _ => .osub r z (lo + l) (h - l)
  | .bsub r off z _ cap => .bsub r (off + l * z) z (h - l) (cap - l)
  | .addr r off => match t with
    | .arr n z _ => .bsub r (off + l * z) z (h - l) (n - l)
    | _ => .undef
  | _ => .undef
/-- how long x is, where it may be sliced -/
def slN (e : Env) (t : Ty) (x : D) : Option Nat :=
  match x, t with
  | .sl z rows, .slice z' _ _ => if z = z' then some rows.length else none
  | .str s, .str => some s.size
  | .nil, .slice _ _ _ => some 0
  | .emp, .slice _ _ _ => some 0
  | .ref r, .slice z' _ _ => match e.o r with
    | .own z rows => if z = z' then some rows.length else none
    | _ => none
  | .osub _ z _ len, .slice z' _ _ => if z = z' then some len else none
  | .bsub _ _ z len _, .slice z' _ _ => if z = z' then some len else none
  | .addr _ _, .arr n _ _ => some n
  | _, _ => none
/-- up to where x may be sliced -/
def slC (e : Env) (t : Ty) (x : D) : Option Nat :=
  match x, t with
  | .bsub _ _ z _ cap, .slice z' _ _ => if z = z' then some cap else none
  | x, t => slN e t x
def SlK (N : Option Nat) (lo hi : D) (k : Nat → Nat → Nat → Prop) : Prop :=
  match N, lo, hi with
  | some n, .int _ l, .int _ h => 0 ≤ l ∧ l ≤ h ∧ h ≤ n ∧ k n l.toNat h.toNat
  | _, _, _ => False
def slNd (N : Option Nat) : Int := ((N.getD 0 : Nat) : Int)
def slV (e : Env) (t : Ty) (x : D) (lo hi : Option Operand) : D :=
  match slB e 0 lo, slB e (slNd (slN e t x)) hi with
  | .int _ l, .int _ h => slD e t x l.toNat h.toNat
  | _, _ => .undef
def slOk (e : Env) (t : Ty) (x : D) (lo hi : Option Operand) : Prop :=
  SlK (slC e t x) (slB e 0 lo) (slB e (slNd (slN e t x)) hi) fun _ _ _ => True
def isSlTy : Ty → Prop
  | .slice _ _ _ => True
  | _ => False
def isSlD : D → Prop
  | .sl _ _ | .nil | .emp | .ref _ | .osub _ _ _ _ | .bsub _ _ _ _ _ => True
  | _ => False
/-- x[0:0:0] -/
def isZero : D → Prop
  | .int _ n => n = 0
  | _ => False

/-- what an operation that only computes or reads gives -/
def pureV (P : Program) (e : Env) : Op → D
  | .move x => rd e x
  | .assign x => rd e x
  | .pick c a b => match rd e c with
    | .bool p => if p then rd e a else rd e b
    | _ => .undef
  | .binOp op _ x y _ => binV op (rd e x) (rd e y)
  | .unOp op _ x => unopV op (rd e x)
  | .convert s d x => convV (tyT P s) (tyT P d) (rd e x)
  | .fieldAddr t x f => match tyT P t with
    | .struct fs => faV fs f (rd e x)
    | _ => .undef
  | .field t x f => match tyT P t with
    | .struct fs => fldV fs f (rd e x)
    | _ => .undef
  | .indexAddr t x i => iaV e (tyT P t) (rd e x) (rd e i)
  | .index t x i => ixV (tyT P t) (rd e x) (rd e i)
  | .load t a => match layT P t with
    | some l => ldV e l (rd e a)
    | none => .undef
  | .nilCheck x => rd e x
  | .extract x i => match rd e x with
    | .tup ds => ds.getD i .undef
    | _ => .undef
  | .build t parts => match zeroT P t with
    | some z => .agg (fillD z (buildParts P e t parts.toList))
    | none => .undef
  | .slice t x lo hi none => slV e (tyT P t) (rd e x) lo hi
  | .slice _ _ _ _ (some _) => .emp
  | .makeFunc (.func f) _ caps => .fn f (caps.toList.map (rd e))
  | .call c => match c.callee, c.args.toList, c.argTypes.toList with
    | .builtin .len, [x], [t] => lenV e (tyT P t) (rd e x)
    | .builtin .max, l, _ => foldD max2D (l.map (rd e))
    | .builtin .min, l, _ => foldD min2D (l.map (rd e))
    | _, _, _ => .undef
  | _ => .undef

def nilOk : D → Prop
  | .addr _ _ | .oaddr _ _ _ _ | .eaddr _ | .fn _ _ => True
  | _ => False
/-- when it can be done -/
def pureOk (P : Program) (e : Env) : Op → Prop
  | .move _ => True
  | .assign _ => True
  | .pick c _ _ => match rd e c with
    | .bool _ => True
    | _ => False
  | .binOp op t x y _ => binOk P (isConst x || isConst y) op t (rd e x) (rd e y)
  | .unOp op _ x => unopOk op (rd e x)
  | .convert s d x => convOk (tyT P s) (tyT P d) (rd e x)
  | .fieldAddr t x f => match tyT P t with
    | .struct fs => faOk fs f (rd e x)
    | _ => False
  | .field t x f => match tyT P t with
    | .struct fs => fldOk fs f (rd e x)
    | _ => False
  | .indexAddr t x i => iaOk e (tyT P t) (rd e x) (rd e i)
  | .index t x i => ixOk (tyT P t) (rd e x) (rd e i)
  | .load t a => match layT P t with
    | some l => ldOk e l (rd e a)
    | none => False
  | .nilCheck x => nilOk (rd e x)
  | .extract x i => match rd e x with
    | .tup ds => i < ds.length
    | _ => False
  | .build t parts => partsOk P e t parts.toList
  | .slice t x lo hi none => slOk e (tyT P t) (rd e x) lo hi
  | .slice t x none (some h) (some m) => isSlTy (tyT P t) ∧ isSlD (rd e x) ∧ isZero (rd e h) ∧ isZero (rd e m)
  | .makeFunc (.func _) first _ => first = #[]
  | .call c => match c.callee, c.args.toList, c.argTypes.toList with
    | .builtin .len, [x], [t] => lenOk e (tyT P t) (rd e x)
    | .builtin .max, l, _ => l ≠ [] ∧ intsOk (l.map (rd e))
    | .builtin .min, l, _ => l ≠ [] ∧ intsOk (l.map (rd e))
    | _, _, _ => False
  | _ => False

section
variable {P : Program} {w0 w w' : World} {l0 : Nat → Option Nat} {G : Nat → Option (Nat × Nat)} {S0 : Nat → Option Value} {lev lev' own own' : Nat → Option Nat} {S S' : Nat → Option Value} {env env' : Env} {tm tm' : Nat → Value}

theorem Inv.opd {tmps : Array Value} (h : Inv w0 l0 G S0 w lev own S env (tmOf tmps)) (a : Act) (ha : a.tmps = tmps) (x : Operand) : RepV (cx w lev S) (a.eval x) (rd env x) := by
  subst ha
  cases x with
  | tmp t => exact h.temps t
  | const v => exact repV_constD v
  | global g => exact .undef _
  | func f => exact .fn f #[] [] rfl (by intro i v d hv; simp at hv)
theorem run_fill {V : Cx} (place : Nat → Option (Nat × Nat)) : ∀ (ps : List (Nat × Value)) (qs : List (Nat × Nat × D)) (cs : Array Value) (ds : List D), ps.length = qs.length → cs.size = ds.length →
    (∀ (i : Nat) v d, cs[i]? = some v → ds[i]? = some d → RepV V v d) →
    (∀ (k : Nat) p q, ps[k]? = some p → qs[k]? = some q → place p.1 = some (q.1, q.2.1) ∧ RepV V p.2 q.2.2) → fillOk ds.length qs →
    ∃ cs', Instr.fill place cs ps = some cs' ∧ cs'.size = (fillD ds qs).length ∧ ∀ (i : Nat) v d, cs'[i]? = some v → (fillD ds qs)[i]? = some d → RepV V v d
  | [], [], cs, ds, _, hs, hr, _, _ => ⟨cs, rfl, hs, hr⟩
  | [], _ :: _, _, _, h, _, _, _, _ => by simp at h
  | _ :: _, [], _, _, h, _, _, _, _ => by simp at h
  | (i, v) :: ps, (off, sz, d) :: qs, cs, ds, hl, hs, hr, hp, hok => by
    obtain ⟨h1, h2, h3, h4⟩ := hok
    obtain ⟨hpl, hrv⟩ := hp 0 (i, v) (off, sz, d) rfl rfl
    simp only at hpl hrv
    obtain ⟨c1, c2, c3⟩ := rep_cellsOf hrv h3
    have hw : (v.cells.zipIdx.foldl (fun cs (x : Value × Nat) => cs.setIfInBounds (off + x.2) x.1) cs) = writeAt cs off v.cells.toList := by
      rw [← Array.foldl_toList, Array.toList_zipIdx]
      have : ∀ (l : List Value) (k : Nat) (c : Array Value), (l.zipIdx k).foldl (fun cs (x : Value × Nat) => cs.setIfInBounds (off + x.2) x.1) c = writeAt c (off + k) l := by
        intro l
        induction l with
        | nil => intro k c; rfl
        | cons x l ih => intro k c; simp only [List.zipIdx_cons, List.foldl_cons, writeAt, ih]; rw [Nat.add_assoc]
      exact this _ 0 cs
    have hfit : off + v.cells.toList.length ≤ cs.size := by simp; omega
    have hlen : (wput ds off d.cells).length = ds.length := wput_length (by omega)
    obtain ⟨cs', e1, e2, e3⟩ := run_fill place ps qs (writeAt cs off v.cells.toList) (wput ds off d.cells) (by simpa using hl) (by rw [writeAt_size, hlen]; exact hs)
      (by
        intro k u x hu hx
        rw [writeAt_get _ _ _ _ hfit] at hu
        rw [wput_get (by omega)] at hx
        have hlv : v.cells.toList.length = d.cells.length := by simpa using c1
        by_cases hj : off ≤ k ∧ k < off + d.cells.length
        · rw [if_pos (by rw [hlv]; exact hj)] at hu
          rw [if_pos hj] at hx
          exact c3 _ u x (by simpa using hu) hx
        · rw [if_neg (by rw [hlv]; exact hj)] at hu
          rw [if_neg hj] at hx
          exact hr k u x hu hx)
      (fun k p q hk hq => hp (k + 1) p q hk hq) (by rw [hlen]; exact h4)
    refine ⟨cs', ?_, e2, e3⟩
    unfold Instr.fill
    simp only [hpl]
    rw [if_neg (by simp; omega)]
    rw [hw]
    exact e1

theorem placesT {fs : Array Field} {l : List FT} (hfs : fieldsT P fs.toList = some l) (w : World) :
    ∃ ps : Array (Nat × Nat), (fs.mapM (fun f => do pure (f.offset, ← sizeOf f.type) : Field → Sem (Nat × Nat))).run P w = .ok ps w ∧ ∀ i : Nat, ps[i]? = (l[i]?).map fun f => (f.off, f.sz) := by
  have key : ∀ (r : List Field) (l : List FT) (acc : Array (Nat × Nat)), fieldsT P r = some l →
      (r.foldlM (fun (acc : Array (Nat × Nat)) f => do pure (acc.push (f.offset, ← sizeOf f.type))) acc : Sem (Array (Nat × Nat))).run P w = .ok (acc ++ (l.map fun f => (f.off, f.sz)).toArray) w := by
    intro r
    induction r with
    | nil =>
      intro l acc h
      simp only [fieldsT, Option.some.injEq] at h
      subst h
      simp [Sem.run, pure]
    | cons f r ih =>
      intro l acc h
      unfold fieldsT at h
      split at h <;> try (cases h; done)
      rename_i ly fs' hl hr
      split at h
      · cases h
      · cases h
        simp only [List.foldlM_cons, Sem.run_bind, run_lsize hl]
        have := ih fs' (acc.push (f.offset, ly.sz)) hr
        simp only [Result.andThen_ok, pure, Sem.run] at this ⊢
        rw [this]
        simp
  refine ⟨(l.map fun f => (f.off, f.sz)).toArray, ?_, fun i => by simp⟩
  have := key fs.toList l #[] hfs
  rw [Array.mapM_eq_foldlM]
  rw [← Array.foldlM_toList]
  simpa using this

end
end Go.Abs
