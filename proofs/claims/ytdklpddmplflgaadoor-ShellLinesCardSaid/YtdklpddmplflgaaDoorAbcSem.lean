/- What each operation does to the plain data of a frame's slots, and what it asks; no theorem of a claim. -/
import Derived.Test.YtdklpddmplflgaaDoorAbcCore
set_option linter.unusedSimpArgs false
set_option linter.unusedVariables false
namespace Go.Abs

/-! ### What the types say -/
structure FT where
  off : Nat
  sz : Nat
  agg : Bool
structure Lay where
  agg : Bool
  sz : Nat
inductive Ty where
  | int (k : IntKind)
  | bool
  | str
  | ptr
  | func
  | slice (z by_ : Nat) (eagg : Bool)
  | arr (n z : Nat) (eagg : Bool)
  | struct (fs : List FT)
  | bad

def aggDesc : TypeDesc → Bool
  | .struct _ | .array _ _ => true
  | _ => false
def layT (P : Program) (t : TypeId) : Option Lay :=
  match P.underlying t, P.info? t with
  | some d, some i => some ⟨aggDesc d, i.size⟩
  | _, _ => none
def fieldsT (P : Program) : List Field → Option (List FT)
  | [] => some []
  | f :: r => match layT P f.type, fieldsT P r with
    | some l, some fs => if l.sz = 0 then none else some (⟨f.offset, l.sz, l.agg⟩ :: fs)
    | _, _ => none
def tyT (P : Program) (t : TypeId) : Ty :=
  match P.underlying t with
  | some (.int k) => .int k
  | some .bool => .bool
  | some .string => .str
  | some (.pointer _) => .ptr
  | some (.func _ _ _) => .func
  | some (.slice e) => match layT P e, P.info? e with
    | some l, some i => if l.sz = 0 then .bad else if (i.zero.map fun v => v.cells.size) = some l.sz then .slice l.sz i.bytes l.agg else .bad
    | _, _ => .bad
  | some (.array n e) => match layT P e with
    | some l => if l.sz = 0 then .bad else .arr n l.sz l.agg
    | none => .bad
  | some (.struct fs) => match fieldsT P fs.toList with
    | some l => .struct l
    | none => .bad
  | _ => .bad

def constC : Value → D
  | .bool b => .bool b
  | .int k n => .int k n
  | .string s => .str s
  | .slice none 0 0 => .nil
  | .nilFunc => .nilfn
  | .nilIface => .nilif
  | .pointer none => .nilp
  | _ => .undef
def constD : Value → D
  | .agg cs => .agg (cs.toList.map constC)
  | .tuple vs => if vs.size = 0 then .tup [] else .undef
  | v => constC v
def zeroT (P : Program) (t : TypeId) : Option (List D) :=
  match P.info? t with
  | some i => i.zero.map fun v => v.cells.toList.map constC
  | none => none

def D.cells : D → List D
  | .agg cs => cs
  | d => [d]
def rd (e : Env) : Operand → D
  | .tmp t => e.t t
  | .const v => constD v
  | .global _ => .undef
  | .func f => .fn f []

def gd (g : Bool) (d : D) : D := if g then d else .tup []

/-! ### Operators -/
def iop (op : BinOp) (k : IntKind) (a b : Int) : D :=
  match op with
  | .add => .int k (k.wrap (a + b))
  | .sub => .int k (k.wrap (a - b))
  | .mul => .int k (k.wrap (a * b))
  | .quo => .int k (k.wrap (a.tdiv b))
  | .rem => .int k (a.tmod b)
  | .and => .int k (k.wrap (BitVec.ofInt k.bits a &&& BitVec.ofInt k.bits b).toNat)
  | .or => .int k (k.wrap (BitVec.ofInt k.bits a ||| BitVec.ofInt k.bits b).toNat)
  | .xor => .int k (k.wrap (BitVec.ofInt k.bits a ^^^ BitVec.ofInt k.bits b).toNat)
  | .andNot => .int k (k.wrap (BitVec.ofInt k.bits a &&& ~~~ BitVec.ofInt k.bits b).toNat)
  | .shl => .int k (k.wrap (a * 2 ^ (min b.toNat k.bits)))
  | .shr => .int k (a.fdiv (2 ^ (min b.toNat k.bits)))
  | .eql => .bool (a == b)
  | .neq => .bool (a != b)
  | .lss => .bool (decide (a < b))
  | .leq => .bool (decide (a ≤ b))
  | .gtr => .bool (decide (b < a))
  | .geq => .bool (decide (b ≤ a))
def iopOk (op : BinOp) (k k' : IntKind) (b : Int) : Prop :=
  match op with
  | .shl | .shr => 0 ≤ b
  | .quo | .rem => k = k' ∧ b ≠ 0
  | _ => k = k'
def sop (op : BinOp) (a b : ByteArray) : D :=
  match op with
  | .add => .str (a ++ b)
  | .eql => .bool (a.toList == b.toList)
  | .neq => .bool (!(a.toList == b.toList))
  | .lss => .bool (Op.bytesLess a.toList b.toList)
  | .leq => .bool (Op.bytesLess a.toList b.toList || a.toList == b.toList)
  | .gtr => .bool (!(Op.bytesLess a.toList b.toList || a.toList == b.toList))
  | .geq => .bool (!Op.bytesLess a.toList b.toList)
  | _ => .undef
def sopOk (op : BinOp) (a b : ByteArray) : Prop :=
  match op with
  | .add => a.size + b.size ≤ 2 ^ 62
  | .eql | .neq | .lss | .leq | .gtr | .geq => True
  | _ => False
inductive Leaf where
  | int | bool | str
def leavesFs (lv : TypeId → Option (List Leaf)) : List Field → Nat → Option (List Leaf)
  | [], _ => some []
  | f :: r, off => if f.name != "_" && f.offset == off then (match lv f.type with
    | some ls => (leavesFs lv r (off + ls.length)).map fun rs => ls ++ rs
    | none => none) else none
/-- the leaves of a type that '==' compares cell by cell -/
def leavesT (P : Program) : Nat → TypeId → Option (List Leaf)
  | 0, _ => none
  | k + 1, t => match P.underlying t, layT P t with
    | some (.int _), some ⟨false, 1⟩ => some [.int]
    | some .bool, some ⟨false, 1⟩ => some [.bool]
    | some .string, some ⟨false, 1⟩ => some [.str]
    | some (.struct fs), some ⟨true, sz⟩ => if P.stoodInHeld t || P.eqGuardType P.depth t then none else (match leavesFs (leavesT P k) fs.toList 0 with
      | some ls => if ls.length = sz ∧ sz ≠ 0 then some ls else none
      | none => none)
    | some (.array n e), some ⟨true, sz⟩ => if P.eqGuardType P.depth t then none else (match leavesT P k e with
      | some ls => if n * ls.length = sz ∧ sz ≠ 0 then some (List.replicate n ls).flatten else none
      | none => none)
    | _, _ => none
def cellEq : D → D → Bool
  | .int _ a, .int _ b => a == b
  | .bool a, .bool b => a == b
  | .str a, .str b => a == b
  | _, _ => false
def cellsEq : List D → List D → Bool
  | a :: x, b :: y => cellEq a b && cellsEq x y
  | _, _ => true
def leafOk : Leaf → D → D → Prop
  | .int, .int k _, .int k' _ => k = k'
  | .bool, .bool _, .bool _ => True
  | .str, .str _, .str _ => True
  | _, _, _ => False
def leavesOk : List Leaf → List D → List D → Prop
  | [], [], [] => True
  | l :: ls, a :: x, b :: y => leafOk l a b ∧ leavesOk ls x y
  | _, _, _ => False
def eqD (op : BinOp) (b : Bool) : D :=
  match op with
  | .eql => .bool b
  | .neq => .bool (!b)
  | _ => .undef
def binV (op : BinOp) : D → D → D
  | .int k a, .int _ b => iop op k a b
  | .str a, .str b => sop op a b
  | .bool a, .bool b => eqD op (a == b)
  | .agg a, .agg b => eqD op (cellsEq a b)
  | .nilif, .nilif => eqD op true
  | .someif, .nilif => eqD op false
  | .nilif, .someif => eqD op false
  | .nilp, .nilp => eqD op true
  | .addr _ _, .nilp => eqD op false
  | .eaddr _, .nilp => eqD op false
  | _, _ => .undef
def binOk0 (op : BinOp) (t : Ty) : D → D → Prop
  | .int k _, .int k' b => iopOk op k k' b
  | .str a, .str b => sopOk op a b
  | .bool _, .bool _ => (op = .eql ∨ op = .neq) ∧ t = .bool
  | _, _ => False
def isEq (op : BinOp) : Prop := op = .eql ∨ op = .neq
def leavesOkO (o : Option (List Leaf)) (a b : List D) : Prop :=
  match o with
  | some ls => leavesOk ls a b
  | none => False
def isIface (P : Program) (t : TypeId) : Bool :=
  match P.underlying t with
  | some (.interface _) => true
  | _ => false
def isAggT (P : Program) (t : TypeId) : Bool :=
  match layT P t with
  | some l => l.agg
  | none => false
def isPtr : Ty → Prop
  | .ptr => True
  | _ => False
def binOk (P : Program) (c : Bool) (op : BinOp) (t : TypeId) : D → D → Prop
  | .agg a, .agg b => isEq op ∧ isAggT P t = true ∧ leavesOkO (leavesT P 9 t) a b
  | .nilif, .nilif => isEq op ∧ isIface P t = true ∧ c = true
  | .someif, .nilif => isEq op ∧ isIface P t = true
  | .nilif, .someif => isEq op ∧ isIface P t = true
  | .nilp, .nilp => isEq op ∧ isPtr (tyT P t)
  | .addr _ _, .nilp => isEq op ∧ isPtr (tyT P t)
  | .eaddr _, .nilp => isEq op ∧ isPtr (tyT P t)
  | a, b => binOk0 op (tyT P t) a b
def isConst : Operand → Bool
  | .const _ => true
  | _ => false
def unopV (op : UnOp) : D → D
  | .int k n => match op with
    | .neg => .int k (k.wrap (0 - n))
    | .xor => .int k (k.wrap (BitVec.ofInt k.bits (if k.signed then -1 else k.max) ^^^ BitVec.ofInt k.bits n).toNat)
    | _ => .undef
  | .bool b => match op with
    | .not => .bool (!b)
    | _ => .undef
  | _ => .undef
def unopOk (op : UnOp) : D → Prop
  | .int _ _ => op = .neg ∨ op = .xor
  | .bool _ => op = .not
  | _ => False
def convV (s t : Ty) : D → D
  | .int _ n => match t with
    | .int k => .int k (k.wrap n)
    | _ => .undef
  | .str b => match t with
    | .str => .str b
    | _ => .undef
  | d => match s, t with
    | _, _ => d
def convOk (s t : Ty) : D → Prop
  | .int _ _ => (∃ k, t = .int k) ∧ ∃ k, s = .int k
  | .str _ => t = .str ∧ s = .str
  | _ => False

/-! ### Addresses, fields, elements -/
def part (agg : Bool) (off n : Nat) (cs : List D) : D := if agg then .agg ((cs.drop off).take n) else (cs.drop off).headD .undef
def faV (fs : List FT) (f : Nat) : D → D
  | .addr r o => .addr r (o + ((fs[f]?).map (·.off)).getD 0)
  | .oaddr r z i k => .oaddr r z i (k + ((fs[f]?).map (·.off)).getD 0)
  | .eaddr cs => .eaddr (cs.drop (((fs[f]?).map (·.off)).getD 0))
  | _ => .undef
def faOk (fs : List FT) (f : Nat) : D → Prop
  | .addr _ _ => f < fs.length
  | .oaddr _ _ _ _ => f < fs.length
  | .eaddr _ => f < fs.length
  | _ => False
/-- how many elements, of how many cells, an object of the frame's own has -/
def ownLen : D → Nat
  | .own _ rows => rows.length
  | _ => 0
def iaV (e : Env) (t : Ty) : D → D → D
  | .sl _ rows, .int _ i => .eaddr (rows.getD i.toNat [])
  | .ref r, .int _ i => match t with
    | .slice z _ _ => .oaddr r z i.toNat 0
    | _ => .undef
  | .osub r z lo _, .int _ i => .oaddr r z (lo + i.toNat) 0
  | .bsub r off z _ _, .int _ i => .addr r (off + i.toNat * z)
  | .addr r o, .int _ i => match t with
    | .arr _ z _ => .addr r (o + i.toNat * z)
    | _ => .undef
  | .oaddr r z j k, .int _ i => match t with
    | .arr _ z' _ => .oaddr r z j (k + i.toNat * z')
    | _ => .undef
  | .eaddr cs, .int _ i => match t with
    | .arr _ z _ => .eaddr (cs.drop (i.toNat * z))
    | _ => .undef
  | _, _ => .undef
def sliceZ (z : Nat) : Ty → Prop
  | .slice z' _ _ => z = z'
  | _ => False
def ownIs (z : Nat) (i : Int) : D → Prop
  | .own z' rows => z' = z ∧ i < rows.length
  | _ => False
def iaOk (e : Env) (t : Ty) : D → D → Prop
  | .sl z rows, .int _ i => sliceZ z t ∧ 0 ≤ i ∧ i < rows.length
  | .ref r, .int _ i => 0 ≤ i ∧ match t with
    | .slice z _ _ => ownIs z i (e.o r)
    | _ => False
  | .osub _ z _ len, .int _ i => sliceZ z t ∧ 0 ≤ i ∧ i < len
  | .bsub _ _ z len _, .int _ i => sliceZ z t ∧ 0 ≤ i ∧ i < len
  | .addr _ _, .int _ i | .oaddr _ _ _ _, .int _ i | .eaddr _, .int _ i => match t with
    | .arr n _ _ => 0 ≤ i ∧ i < n
    | _ => False
  | _, _ => False
def ixV (t : Ty) : D → D → D
  | .agg cs, .int _ i => match t with
    | .arr _ z a => part a (i.toNat * z) z cs
    | _ => .undef
  | .str s, .int _ i => .int .u8 ((s[i.toNat]?).map (·.toNat)|>.getD 0)
  | _, _ => .undef
def ixOk (t : Ty) : D → D → Prop
  | .agg cs, .int _ i => match t with
    | .arr n z _ => 0 ≤ i ∧ i < n ∧ cs.length = n * z
    | _ => False
  | .str s, .int _ i => t = .str ∧ 0 ≤ i ∧ i < s.size
  | _, _ => False
def fldV (fs : List FT) (f : Nat) : D → D
  | .agg cs => match fs[f]? with
    | some x => part x.agg x.off x.sz cs
    | none => .undef
  | _ => .undef
def fldOk (fs : List FT) (f : Nat) : D → Prop
  | .agg cs => match fs[f]? with
    | some x => x.off + x.sz ≤ cs.length
    | none => False
  | _ => False
/-- a whole variable, or a part of one, read out of an object or of memory that stays -/
def ldB (l : Lay) (o : Nat) : D → D
  | .box cs => part l.agg o l.sz cs
  | _ => .undef
def ldW (l : Lay) (i k : Nat) : D → D
  | .own _ rows => part l.agg k l.sz (rows.getD i [])
  | _ => .undef
def ldV (e : Env) (l : Lay) : D → D
  | .addr r o => ldB l o (e.o r)
  | .oaddr r _ i k => ldW l i k (e.o r)
  | .eaddr cs => part l.agg 0 l.sz cs
  | _ => .undef
def layOk (l : Lay) : Prop := 1 ≤ l.sz ∧ (l.agg = false → l.sz = 1)
def ldBOk (l : Lay) (o : Nat) : D → Prop
  | .box cs => o + l.sz ≤ cs.length ∧ layOk l
  | _ => False
def ldWOk (l : Lay) (z i k : Nat) : D → Prop
  | .own z' rows => z' = z ∧ i < rows.length ∧ k + l.sz ≤ z ∧ layOk l
  | _ => False
def ldOk (e : Env) (l : Lay) : D → Prop
  | .addr r o => ldBOk l o (e.o r)
  | .oaddr r z i k => ldWOk l z i k (e.o r)
  | .eaddr cs => l.sz ≤ cs.length ∧ layOk l
  | _ => False
def wput (cs : List D) (o : Nat) (xs : List D) : List D := cs.take o ++ xs ++ cs.drop (o + xs.length)

/-! ### Building -/
def fillD : List D → List (Nat × Nat × D) → List D
  | cs, [] => cs
  | cs, (off, _, d) :: r => fillD (wput cs off d.cells) r
def fillOk (n : Nat) : List (Nat × Nat × D) → Prop
  | [] => True
  | (off, sz, d) :: r => d.cells.length = sz ∧ off + sz ≤ n ∧ (∀ c ∈ d.cells, cellOk c) ∧ fillOk n r
def rowsOf (z : Nat) : Nat → List D → List (List D)
  | 0, _ => []
  | n + 1, cs => cs.take z :: rowsOf z n (cs.drop z)

end Go.Abs
