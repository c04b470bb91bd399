/- What each operation does to the plain data of a frame's slots, and what it asks. No theorem of a claim. -/
import Derived.Test.YtnkobepdbkmedaaGreatAbcCore
set_option linter.unusedSimpArgs false
set_option linter.unusedVariables false
namespace Go.Abs
structure FT where
 off:Nat
 sz:Nat
 agg:Bool
structure qH where
 agg:Bool
 sz:Nat
inductive Ty where
 | int (k:IntKind)
 | bool
 | str
 | ptr
 | func
 | slice (z by_:Nat) (eagg:Bool)
 | arr (n z:Nat) (eagg:Bool)
 | struct (fs:List FT)
 | bad
def He:TypeDesc->Bool
 | .struct _ | .array _ _=>true
 | _=>false
def bQ (P:Program) (t:TypeId):Option qH:=
 match P.underlying t,P.info? t with
 | some d,some i=>some ⟨He d,i.size⟩
 | _,_=>none
def lY (P:Program):List Field->Option (List FT)
 | []=>some []
 | f :: r=>match bQ P f.type,lY P r with
  | some l,some fs=>if l.sz=0 then none else some (⟨f.offset,l.sz,l.agg⟩ :: fs)
  | _,_=>none
def bM (P:Program) (t:TypeId):Ty:=
 match P.underlying t with
 | some (.int k)=>.int k
 | some .bool=>.bool
 | some .string=>.str
 | some (.pointer _)=>.ptr
 | some (.func _ _ _)=>.func
 | some (.slice e)=>match bQ P e,P.info? e with
  | some l,some i=>if l.sz=0 then .bad else if (i.zero.map fun v=>v.cells.size)=some l.sz then .slice l.sz i.bytes l.agg else .bad
  | _,_=>.bad
 | some (.array n e)=>match bQ P e with
  | some l=>if l.sz=0 then .bad else .arr n l.sz l.agg
  | none=>.bad
 | some (.struct fs)=>match lY P fs.toList with
  | some l=>.struct l
  | none=>.bad
 | _=>.bad
def Dr:Value->D
 | .bool b=>.bool b
 | .int k n=>.int k n
 | .string s=>.str s
 | .slice none 0 0=>.nil
 | .nilFunc=>.ew
 | .nilIface=>.eJ
 | .pointer none=>.j5
 | _=>.undef
def rE:Value->D
 | .agg cs=>.agg (cs.toList.map Dr)
 | .tuple vs=>if vs.size=0 then .bH [] else .undef
 | v=>Dr v
def bZ (P:Program) (t:TypeId):Option (List D):=
 match P.info? t with
 | some i=>i.zero.map fun v=>v.cells.toList.map Dr
 | none=>none
def D.cells:D->List D
 | .agg cs=>cs
 | d=>[d]
def rd (e:Env):Operand->D
 | .tmp t=>e.t t
 | .const v=>rE v
 | .global _=>.undef
 | .func f=>.fn f []
def gd (g:Bool) (d:D):D:=if g then d else .bH []
def HH (op:BinOp) (k:IntKind) (a b:Int):D:=
 match op with
 | .add=>.int k (k.wrap (a+b))
 | .sub=>.int k (k.wrap (a-b))
 | .mul=>.int k (k.wrap (a*b))
 | .quo=>.int k (k.wrap (a.tdiv b))
 | .rem=>.int k (a.tmod b)
 | .and=>.int k (k.wrap (BitVec.ofInt k.bits a &&& BitVec.ofInt k.bits b).toNat)
 | .or=>.int k (k.wrap (BitVec.ofInt k.bits a ||| BitVec.ofInt k.bits b).toNat)
 | .xor=>.int k (k.wrap (BitVec.ofInt k.bits a ^^^ BitVec.ofInt k.bits b).toNat)
 | .andNot=>.int k (k.wrap (BitVec.ofInt k.bits a &&& ~~~ BitVec.ofInt k.bits b).toNat)
 | .shl=>.int k (k.wrap (a*2 ^ (min b.toNat k.bits)))
 | .shr=>.int k (a.fdiv (2 ^ (min b.toNat k.bits)))
 | .eql=>.bool (a==b)
 | .neq=>.bool (a != b)
 | .lss=>.bool (decide (a < b))
 | .leq=>.bool (decide (a<=b))
 | .gtr=>.bool (decide (b < a))
 | .geq=>.bool (decide (b<=a))
def kY (op:BinOp) (k k':IntKind) (b:Int):Prop:=
 match op with
 | .shl | .shr=>0<=b
 | .quo | .rem=>k=k'/\b≠0
 | _=>k=k'
def Zk (op:BinOp) (a b:ByteArray):D:=
 match op with
 | .add=>.str (a++b)
 | .eql=>.bool (a.toList==b.toList)
 | .neq=>.bool (!(a.toList==b.toList))
 | .lss=>.bool (Op.bytesLess a.toList b.toList)
 | .leq=>.bool (Op.bytesLess a.toList b.toList||a.toList==b.toList)
 | .gtr=>.bool (!(Op.bytesLess a.toList b.toList||a.toList==b.toList))
 | .geq=>.bool (!Op.bytesLess a.toList b.toList)
 | _=>.undef
def Ev (op:BinOp) (a b:ByteArray):Prop:=
 match op with
 | .add=>a.size+b.size<=2 ^ 62
 | .eql | .neq | .lss | .leq | .gtr | .geq=>True
 | _=>False
inductive pE where
 | int | bool | str
def qt (lv:TypeId->Option (List pE)):List Field->Nat->Option (List pE)
 | [],_=>some []
 | f :: r, off => if f.name != "_" && f.offset == off then (match lv f.type with
  | some ls=>(qt lv r (off+ls.length)).map fun rs=>ls++rs
  | none=>none) else none
def eY (P:Program):Nat->TypeId->Option (List pE)
 | 0,_=>none
 | k+1,t=>match P.underlying t,bQ P t with
  | some (.int _),some ⟨false,1⟩=>some [.int]
  | some .bool,some ⟨false,1⟩=>some [.bool]
  | some .string,some ⟨false,1⟩=>some [.str]
  | some (.struct fs),some ⟨true,sz⟩=>if P.stoodInHeld t||P.eqGuardType P.depth t then none else (match qt (eY P k) fs.toList 0 with
   | some ls=>if ls.length=sz/\sz≠0 then some ls else none
   | none=>none)
  | some (.array n e),some ⟨true,sz⟩=>if P.eqGuardType P.depth t then none else (match eY P k e with
   | some ls=>if n*ls.length=sz/\sz≠0 then some (List.replicate n ls).flatten else none
   | none=>none)
  | _,_=>none
def tj:D->D->Bool
 | .int _ a,.int _ b=>a==b
 | .bool a,.bool b=>a==b
 | .str a,.str b=>a==b
 | _,_=>false
def bU:List D->List D->Bool
 | a :: x,b :: y=>tj a b&&bU x y
 | _,_=>true
def Cg:pE->D->D->Prop
 | .int,.int k _,.int k' _=>k=k'
 | .bool,.bool _,.bool _=>True
 | .str,.str _,.str _=>True
 | _,_,_=>False
def dF:List pE->List D->List D->Prop
 | [],[],[]=>True
 | l :: ls,a :: x,b :: y=>Cg l a b/\dF ls x y
 | _,_,_=>False
def HN (op:BinOp) (b:Bool):D:=
 match op with
 | .eql=>.bool b
 | .neq=>.bool (!b)
 | _=>.undef
def xX (op:BinOp):D->D->D
 | .int k a,.int _ b=>HH op k a b
 | .str a,.str b=>Zk op a b
 | .bool a,.bool b=>HN op (a==b)
 | .agg a,.agg b=>HN op (bU a b)
 | .eJ,.eJ=>HN op true
 | .fq,.eJ=>HN op false
 | .eJ,.fq=>HN op false
 | .j5,.j5=>HN op true
 | .addr _ _,.j5=>HN op false
 | .bF _,.j5=>HN op false
 | _,_=>.undef
def Cr (op:BinOp) (t:Ty):D->D->Prop
 | .int k _,.int k' b=>kY op k k' b
 | .str a,.str b=>Ev op a b
 | .bool _,.bool _=>(op=.eql\/op=.neq)/\t=.bool
 | _,_=>False
def isEq (op:BinOp):Prop:=op=.eql\/op=.neq
def pX (o:Option (List pE)) (a b:List D):Prop:=
 match o with
 | some ls=>dF ls a b
 | none=>False
def isIface (P:Program) (t:TypeId):Bool:=
 match P.underlying t with
 | some (.interface _)=>true
 | _=>false
def oW (P:Program) (t:TypeId):Bool:=
 match bQ P t with
 | some l=>l.agg
 | none=>false
def J6:Ty->Prop
 | .ptr=>True
 | _=>False
def sx (P:Program) (c:Bool) (op:BinOp) (t:TypeId):D->D->Prop
 | .agg a,.agg b=>isEq op/\oW P t=true/\pX (eY P 9 t) a b
 | .eJ,.eJ=>isEq op/\isIface P t=true/\c=true
 | .fq,.eJ=>isEq op/\isIface P t=true
 | .eJ,.fq=>isEq op/\isIface P t=true
 | .j5,.j5=>isEq op/\J6 (bM P t)
 | .addr _ _,.j5=>isEq op/\J6 (bM P t)
 | .bF _,.j5=>isEq op/\J6 (bM P t)
 | a,b=>Cr op (bM P t) a b
def isConst:Operand->Bool
 | .const _=>true
 | _=>false
def yV (op:UnOp):D->D
 | .int k n=>match op with
  | .neg=>.int k (k.wrap (0-n))
  | .xor=>.int k (k.wrap (BitVec.ofInt k.bits (if k.signed then -1 else k.max) ^^^ BitVec.ofInt k.bits n).toNat)
  | _=>.undef
 | .bool b=>match op with
  | .not=>.bool (!b)
  | _=>.undef
 | _=>.undef
def pK (op:UnOp):D->Prop
 | .int _ _=>op=.neg\/op=.xor
 | .bool _=>op=.not
 | _=>False
def Ez (s t:Ty):D->D
 | .int _ n=>match t with
  | .int k=>.int k (k.wrap n)
  | _=>.undef
 | .str b=>match t with
  | .str=>.str b
  | _=>.undef
 | d=>match s,t with
  | _,_=>d
def B3 (s t:Ty):D->Prop
 | .int _ _=>(∃ k,t=.int k)/\∃ k,s=.int k
 | .str _=>t=.str/\s=.str
 | _=>False
def part (agg:Bool) (off n:Nat) (cs:List D):D:=if agg then .agg ((cs.drop off).take n) else (cs.drop off).headD .undef
def SZ (fs:List FT) (f:Nat):D->D
 | .addr r o=>.addr r (o+((fs[f]?).map (·.off)).getD 0)
 | .bO r z i k=>.bO r z i (k+((fs[f]?).map (·.off)).getD 0)
 | .bF cs=>.bF (cs.drop (((fs[f]?).map (·.off)).getD 0))
 | _=>.undef
def Nv (fs:List FT) (f:Nat):D->Prop
 | .addr _ _=>f < fs.length
 | .bO _ _ _ _=>f < fs.length
 | .bF _=>f < fs.length
 | _=>False
def Pa (e:Env) (t:Ty):D->D->D
 | .sl _ rows,.int _ i=>.bF (rows.getD i.toNat [])
 | .ref r,.int _ i=>match t with
  | .slice z _ _=>.bO r z i.toNat 0
  | _=>.undef
 | .fk r z lo _,.int _ i=>.bO r z (lo+i.toNat) 0
 | .eD r off z _ _,.int _ i=>.addr r (off+i.toNat*z)
 | .addr r o,.int _ i=>match t with
  | .arr _ z _=>.addr r (o+i.toNat*z)
  | _=>.undef
 | .bO r z j k,.int _ i=>match t with
  | .arr _ z' _=>.bO r z j (k+i.toNat*z')
  | _=>.undef
 | .bF cs,.int _ i=>match t with
  | .arr _ z _=>.bF (cs.drop (i.toNat*z))
  | _=>.undef
 | _,_=>.undef
def Ld (z:Nat):Ty->Prop
 | .slice z' _ _=>z=z'
 | _=>False
def MO (z:Nat) (i:Int):D->Prop
 | .own z' rows=>z'=z/\i < rows.length
 | _=>False
def H8 (e:Env) (t:Ty):D->D->Prop
 | .sl z rows,.int _ i=>Ld z t/\0<=i/\i < rows.length
 | .ref r,.int _ i=>0<=i/\match t with
  | .slice z _ _=>MO z i (e.o r)
  | _=>False
 | .fk _ z _ len,.int _ i=>Ld z t/\0<=i/\i < len
 | .eD _ _ z len _,.int _ i=>Ld z t/\0<=i/\i < len
 | .addr _ _,.int _ i | .bO _ _ _ _,.int _ i | .bF _,.int _ i=>match t with
  | .arr n _ _=>0<=i/\i < n
  | _=>False
 | _,_=>False
def Z3 (t:Ty):D->D->D
 | .agg cs,.int _ i=>match t with
  | .arr _ z a=>part a (i.toNat*z) z cs
  | _=>.undef
 | .str s,.int _ i=>.int .u8 ((s[i.toNat]?).map (·.toNat)|>.getD 0)
 | _,_=>.undef
def HT (t:Ty):D->D->Prop
 | .agg cs,.int _ i=>match t with
  | .arr n z _=>0<=i/\i < n/\cs.length=n*z
  | _=>False
 | .str s,.int _ i=>t=.str/\0<=i/\i < s.size
 | _,_=>False
def OY (fs:List FT) (f:Nat):D->D
 | .agg cs=>match fs[f]? with
  | some x=>part x.agg x.off x.sz cs
  | none=>.undef
 | _=>.undef
def Fx (fs:List FT) (f:Nat):D->Prop
 | .agg cs=>match fs[f]? with
  | some x=>x.off+x.sz<=cs.length
  | none=>False
 | _=>False
def ldB (l:qH) (o:Nat):D->D
 | .box cs=>part l.agg o l.sz cs
 | _=>.undef
def ldW (l:qH) (i k:Nat):D->D
 | .own _ rows=>part l.agg k l.sz (rows.getD i [])
 | _=>.undef
def Tc (e:Env) (l:qH):D->D
 | .addr r o=>ldB l o (e.o r)
 | .bO r _ i k=>ldW l i k (e.o r)
 | .bF cs=>part l.agg 0 l.sz cs
 | _=>.undef
def uH (l:qH):Prop:=1<=l.sz/\(l.agg=false->l.sz=1)
def Mb (l:qH) (o:Nat):D->Prop
 | .box cs=>o+l.sz<=cs.length/\uH l
 | _=>False
def Na (l:qH) (z i k:Nat):D->Prop
 | .own z' rows=>z'=z/\i < rows.length/\k+l.sz<=z/\uH l
 | _=>False
def Gh (e:Env) (l:qH):D->Prop
 | .addr r o=>Mb l o (e.o r)
 | .bO r z i k=>Na l z i k (e.o r)
 | .bF cs=>l.sz<=cs.length/\uH l
 | _=>False
def kB (cs:List D) (o:Nat) (xs:List D):List D:=cs.take o++xs++cs.drop (o+xs.length)
def j3:List D->List (Nat × Nat × D)->List D
 | cs,[]=>cs
 | cs,(off,_,d) :: r=>j3 (kB cs off d.cells) r
def lN (n:Nat):List (Nat × Nat × D)->Prop
 | []=>True
 | (off,sz,d) :: r=>d.cells.length=sz/\off+sz<=n/\(∀ c∈d.cells,eG c)/\lN n r
def rowsOf (z:Nat):Nat->List D->List (List D)
 | 0,_=>[]
 | n+1,cs=>cs.take z :: rowsOf z n (cs.drop z)
end Go.Abs
