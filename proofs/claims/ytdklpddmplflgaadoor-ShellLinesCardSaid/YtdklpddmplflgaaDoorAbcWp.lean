/- What an operation asks and leaves, as one predicate on the data of the slots and objects; no theorem of a claim. -/
import Derived.Test.YtdklpddmplflgaaDoorAbcLe
set_option linter.unusedSimpArgs false
set_option linter.unusedVariables false
namespace Go.Abs

def Enters (P : Program) (f : FuncId) : Prop := ∃ fn, P.funcs[f]? = some fn ∧ fn.body.isSome = true ∧ (fn.name == "runtime.NumGoroutine") = false

/-- Called with objects hs and arguments ds, in whatever memory, the function returns what reads as d, and leaves the objects hs'; all else is as it was. -/
def Spec (P : Program) (f : FuncId) (hs ds hs' : List D) (d : D) : Prop :=
  Enters P f ∧ ∀ (w : World) (l0 : Nat → Option Nat) (G0 : Nat → Option (Nat × Nat)) (own0 : Nat → Option Nat) (S0 : Nat → Option Value) (vs : Array Value), TabW w G0 → (∀ b m, l0 b = some m → b < w.heap.size) → (∀ b lo hi, G0 b = some (lo, hi) → PartAt w w b lo hi) → vs.size = ds.length →
    (∀ (i : Nat) v x, vs[i]? = some v → ds[i]? = some x → RepV (cx w l0 S0) v x) → (∀ r, ObjAt w.heap.size G0 w l0 own0 S0 r (hs.getD r .undef)) → Calls P f vs w fun e w' => ∃ v, e = .returned v ∧ Out hs.length hs' w l0 G0 S0 w' v d

/-- the same, but what it returns and leaves is told by a property -/
def SpecE (P : Program) (f : FuncId) (hs ds : List D) (Φ : List D → D → Prop) : Prop :=
  Enters P f ∧ ∀ (w : World) (l0 : Nat → Option Nat) (G0 : Nat → Option (Nat × Nat)) (own0 : Nat → Option Nat) (S0 : Nat → Option Value) (vs : Array Value), TabW w G0 → (∀ b m, l0 b = some m → b < w.heap.size) → (∀ b lo hi, G0 b = some (lo, hi) → PartAt w w b lo hi) → vs.size = ds.length →
    (∀ (i : Nat) v x, vs[i]? = some v → ds[i]? = some x → RepV (cx w l0 S0) v x) → (∀ r, ObjAt w.heap.size G0 w l0 own0 S0 r (hs.getD r .undef)) → Calls P f vs w fun e w' => ∃ v hs' d, Φ hs' d ∧ e = .returned v ∧ Out hs.length hs' w l0 G0 S0 w' v d

def StepK (g : Bool) (ok : Prop) (v : D) (k : D → Prop) : Prop := (g = true → ok) ∧ k (gd g v)
def Norm (v : D) (k : D → Prop) : Prop := k v
def GK (g : Bool) (a b : Prop) : Prop := (g = true → a) ∧ (g = false → b)

def CallA (P : Program) (e : Env) (d : Nat) (args : List Operand) (gs : List Nat) (bw : Bool) (hs' : List D) (dv : D) (K : Env → Prop) (fv : D) : Prop :=
  match fv with
  | .fn k caps => gs.Nodup ∧ (∀ r ∈ gs, e.o r ≠ .undef) ∧ (∀ r ∈ newsN d 0 (hs'.length - gs.length), e.o r = .undef) ∧ (gs.length ≤ hs'.length ∧ hs'.length ≤ gs.length + 16) ∧ (bw = true → noPermS dv ∧ ∀ h ∈ hs', noPermO h) ∧
      Spec P k (gs.map fun r => convO bw gs e.o 4 (e.o r)) ((args.map (rd e) ++ caps).map (conv bw gs e.o 4)) hs' dv ∧ K (postE e d gs hs' dv)
  | _ => False
def CallAE (P : Program) (e : Env) (d : Nat) (args : List Operand) (gs : List Nat) (bw : Bool) (Φ : List D → D → Prop) (K : Env → Prop) (fv : D) : Prop :=
  match fv with
  | .fn k caps => gs.Nodup ∧ (∀ r ∈ gs, e.o r ≠ .undef) ∧ SpecE P k (gs.map fun r => convO bw gs e.o 4 (e.o r)) ((args.map (rd e) ++ caps).map (conv bw gs e.o 4)) Φ ∧
      ∀ hs' dv, Φ hs' dv → (∀ r ∈ newsN d 0 (hs'.length - gs.length), e.o r = .undef) ∧ (gs.length ≤ hs'.length ∧ hs'.length ≤ gs.length + 16) ∧ (bw = true → noPermS dv ∧ ∀ h ∈ hs', noPermO h) ∧ K (postE e d gs hs' dv)
  | _ => False
/-- what goes on behind a call: outside drawn regions less may be known, under other names -/
def KW (dr : Bool) (K : Env → Prop) (e : Env) : Prop := K e ∨ (dr = false ∧ ∃ ts os, LeL e ts os ∧ K (mkE ts os))
theorem KW.mono {dr : Bool} {K K' : Env → Prop} (h : ∀ e, K e → K' e) (e : Env) (hk : KW dr K e) : KW dr K' e :=
  hk.imp (h e) fun ⟨hd, ts, os, hl, hk⟩ => ⟨hd, ts, os, hl, h _ hk⟩
theorem KW.drawn {K : Env → Prop} {e : Env} (hk : KW true K e) : K e := hk.elim id fun h => (Bool.false_ne_true h.1.symm).elim
theorem CallA_mono {P : Program} {e : Env} {d : Nat} {args : List Operand} {gs : List Nat} {bw : Bool} {hs' : List D} {dv : D} {K K' : Env → Prop} {fv : D} (h : ∀ e, K e → K' e) (hk : CallA P e d args gs bw hs' dv K fv) : CallA P e d args gs bw hs' dv K' fv := by
  unfold CallA at hk ⊢
  split at hk
  · exact ⟨hk.1, hk.2.1, hk.2.2.1, hk.2.2.2.1, hk.2.2.2.2.1, hk.2.2.2.2.2.1, h _ hk.2.2.2.2.2.2⟩
  · exact hk.elim
def CallT (P : Program) (dr : Bool) (e : Env) (d : Nat) (f : Operand) (args : List Operand) (K : Env → Prop) : Prop :=
  ∃ (fz gs : List Nat) (bw : Bool) (hs' : List D) (dv : D), (dr = true → fz = [] ∧ gs = []) ∧ CallA P (frzEL fz e) d args gs bw hs' dv (KW dr K) (rd (frzEL fz e) f)

def StB (P : Program) (e : Env) (t : TypeId) (r off : Nat) (v : D) (K : Env → Prop) (ob : D) : Prop :=
  match ob with
  | .box cs => match layT P t with
    | some l => off + l.sz ≤ cs.length ∧ v.cells.length = l.sz ∧ (∀ c ∈ v.cells, cellOk c) ∧ K (updO e r (.box (wput cs off v.cells)))
    | none => False
  | _ => False
def StO (P : Program) (e : Env) (t : TypeId) (r z i k : Nat) (v : D) (K : Env → Prop) (ob : D) : Prop :=
  match ob with
  | .own z' rows => match layT P t with
    | some l => z' = z ∧ i < rows.length ∧ k + l.sz ≤ z ∧ v.cells.length = l.sz ∧ (∀ c ∈ v.cells, permOk c) ∧ K (updO e r (.own z (rows.set i (wput (rows.getD i []) k v.cells))))
    | none => False
  | _ => False
def StK (P : Program) (e : Env) (t : TypeId) (a : D) (K : Env → Prop) (v : D) : Prop :=
  match a with
  | .addr r off => StB P e t r off v K (e.o r)
  | .oaddr r z i k => StO P e t r z i k v K (e.o r)
  | _ => False

def BoxK (e : Env) (d : Nat) (K : Env → Prop) (v : D) : Prop :=
  (∀ c ∈ v.cells, cellOk c) ∧ e.o (nm d 0) = .undef ∧ K (updT (updO e (nm d 0) (.box v.cells)) d (.addr (nm d 0) 0))
def AlcK (e : Env) (d : Nat) (K : Env → Prop) (z : Option (List D)) : Prop :=
  match z with
  | some z => e.o (nm d 0) = .undef ∧ K (updT (updO e (nm d 0) (.box z)) d (.addr (nm d 0) 0))
  | none => False

def zeroElemT (P : Program) (t : TypeId) : Option (List D) :=
  match P.underlying t with
  | some (.slice e) => zeroT P e
  | _ => none
def bsParts (e : Env) (z : Nat) (parts : List (Nat × Operand)) : List (Nat × Nat × D) := parts.map fun x => (x.1 * z, z, rd e x.2)
def bsCells (zc : List D) (e : Env) (z len : Nat) (parts : List (Nat × Operand)) : List D :=
  fillD (List.replicate len zc).flatten (bsParts e z parts)
def BsK (e : Env) (len : Nat) (parts : List (Nat × Operand)) (d : Nat) (K : Env → Prop) (t : Ty) (zc : Option (List D)) : Prop :=
  match t, zc with
  | .slice z _ _, some zc => len * z ≤ 2 ^ 24 ∧ zc.length = z ∧ fillOk (len * z) (bsParts e z parts) ∧ (∀ c ∈ bsCells zc e z len parts, permOk c) ∧ e.o (nm d 0) = .undef ∧
      K (updT (updO e (nm d 0) (.own z (rowsOf z len (bsCells zc e z len parts)))) d (.ref (nm d 0)))
  | _, _ => False
/-- what the parts name is let go first -/
def bsNames (e : Env) (parts : List (Nat × Operand)) : List Nat := D.namesL (parts.map fun x => rd e x.2)

def rowsD (z : Nat) : D → Option (List (List D))
  | .sl z' rows => if z' = z then some rows else none
  | .nil => some []
  | .emp => some []
  | _ => none
def AppA (e : Env) (z by_ d : Nat) (rows2 : List (List D)) (K : Env → Prop) (r : Nat) (ob : D) : Prop :=
  match ob with
  | .own z' rows => z' = z ∧ (by_ + 1) * (rows.length + rows2.length) ≤ 2 ^ 45 ∧ (killE r e).o (nm d 0) = .undef ∧ K (updT (updO (killE r e) (nm d 0) (.own z (rows ++ rows2))) d (.ref (nm d 0)))
  | _ => False
def AppY (e : Env) (z by_ d : Nat) (K : Env → Prop) (v : D) (y : Option (List (List D))) : Prop :=
  match v, y with
  | .nil, some rows2 => (by_ + (1 - by_)) * rows2.length ≤ 2 ^ 47 ∧ e.o (nm d 0) = .undef ∧ K (updT (updO e (nm d 0) (.own z rows2)) d (.ref (nm d 0)))
  | .emp, some rows2 => (by_ + (1 - by_)) * rows2.length ≤ 2 ^ 47 ∧ e.o (nm d 0) = .undef ∧ K (updT (updO e (nm d 0) (.own z rows2)) d (.ref (nm d 0)))
  | .ref r, some rows2 => AppA e z by_ d rows2 K r (e.o r)
  | _, _ => False
def AppK (e : Env) (d : Nat) (K : Env → Prop) (x y : D) (t t2 : Ty) : Prop :=
  match t, t2 with
  | .slice z by_ _, .slice _ _ _ => by_ ≤ 2 ^ 32 ∧ AppY e z by_ d K x (rowsD z (bor e.o [] 2 y))
  | _, _ => False

def MkK (e : Env) (d : Nat) (K : Env → Prop) (l c : D) (t : Ty) (zc : Option (List D)) : Prop :=
  match t, l, c, zc with
  | .slice z by_ _, .int _ n, .int _ m, some zc => 0 ≤ n ∧ n ≤ m ∧ m ≤ 2 ^ 40 ∧ by_ * m ≤ 2 ^ 47 ∧ zc.length = z ∧ (∀ d ∈ zc, permOk d) ∧ e.o (nm d 0) = .undef ∧
      K (updT (updO e (nm d 0) (.own z (List.replicate n.toNat zc))) d (.ref (nm d 0)))
  | _, _, _, _ => False

/-! ### operations that are told by what they do -/
def Cont (n : Nat) (w0 : World) (l0 : Nat → Option Nat) (G : Nat → Option (Nat × Nat)) (S0 : Nat → Option Value) (K : Env → Prop) (next : Act → World → Prop) : Prop :=
  ∀ (e' : Env) lev' own' S' w' (a' : Act), a'.tmps.size = n → a'.defers = [] → Inv w0 l0 G S0 w' lev' own' S' e' (tmOf a'.tmps) → K e' → next a' w'
/-- whatever the world, the operation goes on to K -/
def SemK (P : Program) (n : Nat) (o : Oper) (e : Env) (K : Env → Prop) : Prop :=
  ∀ (w0 : World) (l0 : Nat → Option Nat) (G : Nat → Option (Nat × Nat)) (S0 : Nat → Option Value) (w : World) (lev own : Nat → Option Nat) (S : Nat → Option Value) (a : Act) (next : Act → World → Prop) (Q : Exit → Act → World → Prop),
    Inv w0 l0 G S0 w lev own S e (tmOf a.tmps) → a.tmps.size = n → a.defers = [] → Cont n w0 l0 G S0 K next → o.wp P a w next Q
theorem SemK.mono {P : Program} {n : Nat} {o : Oper} {e : Env} {K K' : Env → Prop} (hk : ∀ e, K e → K' e) (h : SemK P n o e K) : SemK P n o e K' :=
  fun w0 l0 G S0 w lev own S a next Q hi hn hd hc => h w0 l0 G S0 w lev own S a next Q hi hn hd fun e' lev' own' S' w' a' h1 h2 h3 h4 => hc e' lev' own' S' w' a' h1 h2 h3 (hk _ h4)
def hardY : Operand → Bool
  | .const (.slice none 0 0) => true
  | _ => false
/-- the type of a slice of pointers, or a number that no type has: such a slice is a box of addresses (set by inst2.sh) -/
def ptrS : Nat := 50
def hard (o : Oper) : Bool :=
  match o.op with
  | .buildSlice t _ _ => t == ptrS
  | .call c => (match c.callee with
    | .builtin .copy => true
    | .builtin .clear => true
    | .builtin .cap => true
    | _ => false)
  | .binOp _ _ _ y _ => hardY y
  | .slice _ _ lo _ mx => mx.isSome && lo.isSome
  | _ => false
def AppX (e : Env) (d : Nat) (K : Env → Prop) (S : Prop) (x y : D) (t t2 : Ty) : Prop :=
  match x, y with
  | .bsub _ _ _ _ _, _ => S
  | _, .int _ _ => S
  | x, y => AppK e d K x y t t2

def opK0 (P : Program) (n : Nat) (dr : Bool) (o : Oper) (e : Env) (g : Bool) (K : Env → Prop) : Prop :=
  match o.op, o.dst with
  | .store t a x, none => g = true ∧ Norm (rd e a) fun a => Norm (rd e x) (StK P e t a K)
  | .box _ x, some d => g = true ∧ d < n ∧ Norm (rd e x) (BoxK e d K)
  | .alloc t, some d => g = true ∧ d < n ∧ AlcK e d K (zeroT P t)
  | .buildSlice t len parts, some d => d < n ∧ GK g ((dr = true → bsNames e parts.toList = []) ∧ BsK (frzEL (bsNames e parts.toList) e) len parts.toList d K (tyT P t) (zeroElemT P t)) (K (updT e d (.tup [])))
  | .makeSlice t l c, some d => d < n ∧ GK g (MkK e d K (rd e l) (rd e c) (tyT P t) (zeroElemT P t)) (K (updT e d (.tup [])))
  | .call c, some d => d < n ∧ (match c.callee with
    | .builtin .append => g = true ∧ dr = false ∧ (match c.args.toList, c.argTypes.toList with
      | [x, y], [T, T2] => AppX e d K (SemK P n o e K) (rd e x) (rd e y) (tyT P T) (tyT P T2)
      | _, _ => False)
    | .builtin _ => StepK g (pureOk P e o.op) (pureV P e o.op) fun u => K (updT e d u)
    | .value f => GK g (CallT P dr e d f c.args.toList K ∨ (dr = false ∧ SemK P n o e K)) (K (updT e d (.tup [])))
    | .invoke _ _ => False)
  | op, some d => d < n ∧ StepK g (pureOk P e op) (pureV P e op) fun u => K (updT e d u)
  | _, none => False

def opK (P : Program) (n : Nat) (dr : Bool) (o : Oper) (e : Env) (g : Bool) (K : Env → Prop) : Prop := if hard o then g = true ∧ dr = false ∧ SemK P n o e K else opK0 P n dr o e g K

def dstAt : List Oper → Nat → Option Tmp
  | [], _ => none
  | o :: _, 0 => o.dst
  | _ :: r, n + 1 => dstAt r n
def wantD (w : Bool) : D → Option Bool
  | .bool b => some (b == w)
  | .tup [] => some false
  | _ => none
def gval (ops : List Oper) (e : Env) : Option (Nat × Bool) → Option Bool
  | none => some true
  | some (j, w) => match dstAt ops j with
    | some t => wantD w (rd e (.tmp t))
    | none => some false
def wpOp (P : Program) (n : Nat) (ops : List Oper) (o : Oper) (e : Env) (K : Env → Prop) : Prop :=
  match gval ops e o.guard with
  | some g => opK P n false o e g K
  | none => False
def wpList (P : Program) (n : Nat) (ops : List Oper) : List Oper → Env → (Env → Prop) → Prop
  | [], e, K => K e
  | o :: r, e, K => wpOp P n ops o e fun e' => wpList P n ops r e' K
end Go.Abs
