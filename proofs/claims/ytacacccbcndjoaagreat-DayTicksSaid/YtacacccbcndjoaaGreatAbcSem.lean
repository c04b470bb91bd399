/- What each operation does to the plain data of a frame's slots, and what it asks. No theorem of a claim. -/
import Derived.Test.YtacacccbcndjoaaGreatAbcCore
set_option linter.unusedSimpArgs false
set_option linter.unusedVariables false
namespace Go.Abs
structure FT where
 off:Nat
 sz:Nat
 agg:Bool
structure qA where
 agg:Bool
 sz:Nat
inductive Ty where
 | int (k:IntKind)
 | bool
 | str
 | ptr
 | func
 | slice (z by_:Nat) (eagg:Bool)
 | arr (n z:Nat) (eagg:Bool)
 | struct (fs:List FT)
 | bad
def Hq:TypeDesc->Bool
 | .struct _ | .array _ _=>true
 | _=>false
def bT (P:Program) (t:TypeId):Option qA:=
 match P.underlying t,P.info? t with
 | some d,some i=>some ⟨Hq d,i.size⟩
 | _,_=>none
def l9 (P:Program):List Field->Option (List FT)
 | []=>some []
 | f :: r=>match bT P f.type,l9 P r with
  | some l,some fs=>if l.sz=0 then none else some (⟨f.offset,l.sz,l.agg⟩ :: fs)
  | _,_=>none
def bO (P:Program) (t:TypeId):Ty:=
 match P.underlying t with
 | some (.int k)=>.int k
 | some .bool=>.bool
 | some .string=>.str
 | some (.pointer _)=>.ptr
 | some (.func _ _ _)=>.func
 | some (.slice e)=>match bT P e,P.info? e with
  | some l,some i=>if l.sz=0 then .bad else if (i.zero.map fun v=>v.cells.size)=some l.sz then .slice l.sz i.bytes l.agg else .bad
  | _,_=>.bad
 | some (.array n e)=>match bT P e with
  | some l=>if l.sz=0 then .bad else .arr n l.sz l.agg
  | none=>.bad
 | some (.struct fs)=>match l9 P fs.toList with
  | some l=>.struct l
  | none=>.bad
 | _=>.bad
def B4:Value->D
 | .bool b=>.bool b
 | .int k n=>.int k n
 | .string s=>.str s
 | .slice none 0 0=>.nil
 | .nilFunc=>.iP
 | .nilIface=>.eM
 | .pointer none=>.j4
 | _=>.undef
def qW:Value->D
 | .agg cs=>.agg (cs.toList.map B4)
 | .tuple vs=>if vs.size=0 then .bD [] else .undef
 | v=>B4 v
def cZ (P:Program) (t:TypeId):Option (List D):=
 match P.info? t with
 | some i=>i.zero.map fun v=>v.cells.toList.map B4
 | none=>none
def D.cells:D->List D
 | .agg cs=>cs
 | d=>[d]
def rd (e:Env):Operand->D
 | .tmp t=>e.t t
 | .const v=>qW v
 | .global _=>.undef
 | .func f=>.fn f []
def gd (g:Bool) (d:D):D:=if g then d else .bD []
def Ie (op:BinOp) (k:IntKind) (a b:Int):D:=
 match op with
 | .add=>.int k (k.wrap (a+b))
 | .sub=>.int k (k.wrap (a-b))
 | .mul=>.int k (k.wrap (a*b))
 | .quo=>.int k (k.wrap (a.tdiv b))
 | .rem=>.int k (a.tmod b)
 | .and=>.int k (k.wrap (BitVec.ofInt k.bits a &&& BitVec.ofInt k.bits b).toNat)
 | .or=>.int k (k.wrap (BitVec.ofInt k.bits a ||| BitVec.ofInt k.bits b).toNat)
 | .xor=>.int k (k.wrap (BitVec.ofInt k.bits a ^^^ BitVec.ofInt k.bits b).toNat)
 | .andNot=>.int k (k.wrap (BitVec.ofInt k.bits a &&& ~~~ BitVec.ofInt k.bits b).toNat)
 | .shl=>.int k (k.wrap (a*2 ^ (min b.toNat k.bits)))
 | .shr=>.int k (a.fdiv (2 ^ (min b.toNat k.bits)))
 | .eql=>.bool (a==b)
 | .neq=>.bool (a != b)
 | .lss=>.bool (decide (a < b))
 | .leq=>.bool (decide (a<=b))
 | .gtr=>.bool (decide (b < a))
 | .geq=>.bool (decide (b<=a))
def kU (op:BinOp) (k k':IntKind) (b:Int):Prop:=
 match op with
 | .shl | .shr=>0<=b
 | .quo | .rem=>k=k'/\b≠0
 | _=>k=k'
def sop (op:BinOp) (a b:ByteArray):D:=
 match op with
 | .add=>.str (a++b)
 | .eql=>.bool (a.toList==b.toList)
 | .neq=>.bool (!(a.toList==b.toList))
 | .lss=>.bool (Op.bytesLess a.toList b.toList)
 | .leq=>.bool (Op.bytesLess a.toList b.toList||a.toList==b.toList)
 | .gtr=>.bool (!(Op.bytesLess a.toList b.toList||a.toList==b.toList))
 | .geq=>.bool (!Op.bytesLess a.toList b.toList)
 | _=>.undef
def Ff (op:BinOp) (a b:ByteArray):Prop:=
 match op with
 | .add=>a.size+b.size<=2 ^ 62
 | .eql | .neq | .lss | .leq | .gtr | .geq=>True
 | _=>False
inductive pI where
 | int | bool | str
def pR (lv:TypeId->Option (List pI)):List Field->Nat->Option (List pI)
 | [],_=>some []
 | f :: r, off => if f.name != "_" && f.offset == off then (match lv f.type with
  | some ls=>(pR lv r (off+ls.length)).map fun rs=>ls++rs
  | none=>none) else none
def gm (P:Program):Nat->TypeId->Option (List pI)
 | 0,_=>none
 | k+1,t=>match P.underlying t,bT P t with
  | some (.int _),some ⟨false,1⟩=>some [.int]
  | some .bool,some ⟨false,1⟩=>some [.bool]
  | some .string,some ⟨false,1⟩=>some [.str]
  | some (.struct fs),some ⟨true,sz⟩=>if P.stoodInHeld t||P.eqGuardType P.depth t then none else (match pR (gm P k) fs.toList 0 with
   | some ls=>if ls.length=sz/\sz≠0 then some ls else none
   | none=>none)
  | some (.array n e),some ⟨true,sz⟩=>if P.eqGuardType P.depth t then none else (match gm P k e with
   | some ls=>if n*ls.length=sz/\sz≠0 then some (List.replicate n ls).flatten else none
   | none=>none)
  | _,_=>none
def sM:D->D->Bool
 | .int _ a,.int _ b=>a==b
 | .bool a,.bool b=>a==b
 | .str a,.str b=>a==b
 | _,_=>false
def bW:List D->List D->Bool
 | a :: x,b :: y=>sM a b&&bW x y
 | _,_=>true
def CV:pI->D->D->Prop
 | .int,.int k _,.int k' _=>k=k'
 | .bool,.bool _,.bool _=>True
 | .str,.str _,.str _=>True
 | _,_,_=>False
def dF:List pI->List D->List D->Prop
 | [],[],[]=>True
 | l :: ls,a :: x,b :: y=>CV l a b/\dF ls x y
 | _,_,_=>False
def Jh (op:BinOp) (b:Bool):D:=
 match op with
 | .eql=>.bool b
 | .neq=>.bool (!b)
 | _=>.undef
def yQ (op:BinOp):D->D->D
 | .int k a,.int _ b=>Ie op k a b
 | .str a,.str b=>sop op a b
 | .bool a,.bool b=>Jh op (a==b)
 | .agg a,.agg b=>Jh op (bW a b)
 | .eM,.eM=>Jh op true
 | .fu,.eM=>Jh op false
 | .eM,.fu=>Jh op false
 | .j4,.j4=>Jh op true
 | .addr _ _,.j4=>Jh op false
 | .bI _,.j4=>Jh op false
 | _,_=>.undef
def CT (op:BinOp) (t:Ty):D->D->Prop
 | .int k _,.int k' b=>kU op k k' b
 | .str a,.str b=>Ff op a b
 | .bool _,.bool _=>(op=.eql\/op=.neq)/\t=.bool
 | _,_=>False
def isEq (op:BinOp):Prop:=op=.eql\/op=.neq
def qk (o:Option (List pI)) (a b:List D):Prop:=
 match o with
 | some ls=>dF ls a b
 | none=>False
def isIface (P:Program) (t:TypeId):Bool:=
 match P.underlying t with
 | some (.interface _)=>true
 | _=>false
def xN (P:Program) (t:TypeId):Bool:=
 match bT P t with
 | some l=>l.agg
 | none=>false
def J8:Ty->Prop
 | .ptr=>True
 | _=>False
def sC (P:Program) (c:Bool) (op:BinOp) (t:TypeId):D->D->Prop
 | .agg a,.agg b=>isEq op/\xN P t=true/\qk (gm P 9 t) a b
 | .eM,.eM=>isEq op/\isIface P t=true/\c=true
 | .fu,.eM=>isEq op/\isIface P t=true
 | .eM,.fu=>isEq op/\isIface P t=true
 | .j4,.j4=>isEq op/\J8 (bO P t)
 | .addr _ _,.j4=>isEq op/\J8 (bO P t)
 | .bI _,.j4=>isEq op/\J8 (bO P t)
 | a,b=>CT op (bO P t) a b
def isConst:Operand->Bool
 | .const _=>true
 | _=>false
def yR (op:UnOp):D->D
 | .int k n=>match op with
  | .neg=>.int k (k.wrap (0-n))
  | .xor=>.int k (k.wrap (BitVec.ofInt k.bits (if k.signed then -1 else k.max) ^^^ BitVec.ofInt k.bits n).toNat)
  | _=>.undef
 | .bool b=>match op with
  | .not=>.bool (!b)
  | _=>.undef
 | _=>.undef
def oX (op:UnOp):D->Prop
 | .int _ _=>op=.neg\/op=.xor
 | .bool _=>op=.not
 | _=>False
def Gg (s t:Ty):D->D
 | .int _ n=>match t with
  | .int k=>.int k (k.wrap n)
  | _=>.undef
 | .str b=>match t with
  | .str=>.str b
  | _=>.undef
 | d=>match s,t with
  | _,_=>d
def Cj (s t:Ty):D->Prop
 | .int _ _=>(∃ k,t=.int k)/\∃ k,s=.int k
 | .str _=>t=.str/\s=.str
 | _=>False
def part (agg:Bool) (off n:Nat) (cs:List D):D:=if agg then .agg ((cs.drop off).take n) else (cs.drop off).headD .undef
def SK (fs:List FT) (f:Nat):D->D
 | .addr r o=>.addr r (o+((fs[f]?).map (·.off)).getD 0)
 | .bQ r z i k=>.bQ r z i (k+((fs[f]?).map (·.off)).getD 0)
 | .bI cs=>.bI (cs.drop (((fs[f]?).map (·.off)).getD 0))
 | _=>.undef
def N9 (fs:List FT) (f:Nat):D->Prop
 | .addr _ _=>f < fs.length
 | .bQ _ _ _ _=>f < fs.length
 | .bI _=>f < fs.length
 | _=>False
def OF (e:Env) (t:Ty):D->D->D
 | .sl _ rows,.int _ i=>.bI (rows.getD i.toNat [])
 | .ref r,.int _ i=>match t with
  | .slice z _ _=>.bQ r z i.toNat 0
  | _=>.undef
 | .fj r z lo _,.int _ i=>.bQ r z (lo+i.toNat) 0
 | .eI r off z _ _,.int _ i=>.addr r (off+i.toNat*z)
 | .addr r o,.int _ i=>match t with
  | .arr _ z _=>.addr r (o+i.toNat*z)
  | _=>.undef
 | .bQ r z j k,.int _ i=>match t with
  | .arr _ z' _=>.bQ r z j (k+i.toNat*z')
  | _=>.undef
 | .bI cs,.int _ i=>match t with
  | .arr _ z _=>.bI (cs.drop (i.toNat*z))
  | _=>.undef
 | _,_=>.undef
def Lq (z:Nat):Ty->Prop
 | .slice z' _ _=>z=z'
 | _=>False
def MJ (z:Nat) (i:Int):D->Prop
 | .own z' rows=>z'=z/\i < rows.length
 | _=>False
def Im (e:Env) (t:Ty):D->D->Prop
 | .sl z rows,.int _ i=>Lq z t/\0<=i/\i < rows.length
 | .ref r,.int _ i=>0<=i/\match t with
  | .slice z _ _=>MJ z i (e.o r)
  | _=>False
 | .fj _ z _ len,.int _ i=>Lq z t/\0<=i/\i < len
 | .eI _ _ z len _,.int _ i=>Lq z t/\0<=i/\i < len
 | .addr _ _,.int _ i | .bQ _ _ _ _,.int _ i | .bI _,.int _ i=>match t with
  | .arr n _ _=>0<=i/\i < n
  | _=>False
 | _,_=>False
def ixV (t:Ty):D->D->D
 | .agg cs,.int _ i=>match t with
  | .arr _ z a=>part a (i.toNat*z) z cs
  | _=>.undef
 | .str s,.int _ i=>.int .u8 ((s[i.toNat]?).map (·.toNat)|>.getD 0)
 | _,_=>.undef
def Jb (t:Ty):D->D->Prop
 | .agg cs,.int _ i=>match t with
  | .arr n z _=>0<=i/\i < n/\cs.length=n*z
  | _=>False
 | .str s,.int _ i=>t=.str/\0<=i/\i < s.size
 | _,_=>False
def NT (fs:List FT) (f:Nat):D->D
 | .agg cs=>match fs[f]? with
  | some x=>part x.agg x.off x.sz cs
  | none=>.undef
 | _=>.undef
def FQ (fs:List FT) (f:Nat):D->Prop
 | .agg cs=>match fs[f]? with
  | some x=>x.off+x.sz<=cs.length
  | none=>False
 | _=>False
def ldB (l:qA) (o:Nat):D->D
 | .box cs=>part l.agg o l.sz cs
 | _=>.undef
def ldW (l:qA) (i k:Nat):D->D
 | .own _ rows=>part l.agg k l.sz (rows.getD i [])
 | _=>.undef
def Td (e:Env) (l:qA):D->D
 | .addr r o=>ldB l o (e.o r)
 | .bQ r _ i k=>ldW l i k (e.o r)
 | .bI cs=>part l.agg 0 l.sz cs
 | _=>.undef
def uO (l:qA):Prop:=1<=l.sz/\(l.agg=false->l.sz=1)
def ND (l:qA) (o:Nat):D->Prop
 | .box cs=>o+l.sz<=cs.length/\uO l
 | _=>False
def ME (l:qA) (z i k:Nat):D->Prop
 | .own z' rows=>z'=z/\i < rows.length/\k+l.sz<=z/\uO l
 | _=>False
def G2 (e:Env) (l:qA):D->Prop
 | .addr r o=>ND l o (e.o r)
 | .bQ r z i k=>ME l z i k (e.o r)
 | .bI cs=>l.sz<=cs.length/\uO l
 | _=>False
def kP (cs:List D) (o:Nat) (xs:List D):List D:=cs.take o++xs++cs.drop (o+xs.length)
def jS:List D->List (Nat × Nat × D)->List D
 | cs,[]=>cs
 | cs,(off,_,d) :: r=>jS (kP cs off d.cells) r
def lA (n:Nat):List (Nat × Nat × D)->Prop
 | []=>True
 | (off,sz,d) :: r=>d.cells.length=sz/\off+sz<=n/\(∀ c∈d.cells,eu c)/\lA n r
def rowsOf (z:Nat):Nat->List D->List (List D)
 | 0,_=>[]
 | n+1,cs=>cs.take z :: rowsOf z n (cs.drop z)
end Go.Abs
