/- The abstract reading of values: what a frame's slots and the objects that it owns hold, as plain data; no theorem of a claim. -/
import Derived.Below
import Derived.Lib.ItoaNum
import Derived.Laws.Cells
import Derived.Laws.Rows
import Derived.Laws.Entries
import Derived.Laws.Sem
import Derived.ChangeKeysEq
set_option linter.unusedSimpArgs false
set_option linter.unusedVariables false
namespace Go.Abs
open Go.RowKit (Below)

inductive D where
  | undef
  | bool (b : Bool)
  | int (k : IntKind) (n : Int)
  | str (s : ByteArray)
  | nil
  | emp
  | nilfn
  | nilif
  | someif
  | nilp
  | fn (f : FuncId) (caps : List D)
  | agg (cs : List D)
  | tup (ds : List D)
  | sl (z : Nat) (rows : List (List D))
  | eaddr (cs : List D)
  | ref (r : Nat)
  | addr (r off : Nat)
  | oaddr (r z i k : Nat)
  | osub (r z lo len : Nat)
  | bsub (r off z len cap : Nat)
  | own (z : Nat) (rows : List (List D))
  | box (cs : List D)

/-- what the slots hold, and the objects that the frame owns -/
structure Env where
  t : Nat → D
  o : Nat → D
def e0 : Env := ⟨fun _ => .undef, fun _ => .undef⟩
def updT (e : Env) (i : Nat) (d : D) : Env := ⟨fun j => if j = i then d else e.t j, e.o⟩
def updO (e : Env) (i : Nat) (d : D) : Env := ⟨e.t, fun j => if j = i then d else e.o j⟩
theorem updT_same (e : Env) (i : Nat) (d : D) : (updT e i d).t i = d := by simp [updT]
theorem updT_ne {e : Env} {i : Nat} {d : D} {j : Nat} (h : j ≠ i) : (updT e i d).t j = e.t j := by simp [updT, h]
theorem updO_same (e : Env) (i : Nat) (d : D) : (updO e i d).o i = d := by simp [updO]
theorem updO_ne {e : Env} {i : Nat} {d : D} {j : Nat} (h : j ≠ i) : (updO e i d).o j = e.o j := by simp [updO, h]

/-! ### the objects that a datum names -/
mutual
def D.names : D → List Nat
  | .fn _ cs => D.namesL cs
  | .agg cs => D.namesL cs
  | .tup cs => D.namesL cs
  | .box cs => D.namesL cs
  | .ref r => [r]
  | .addr r _ => [r]
  | .oaddr r _ _ _ => [r]
  | .osub r _ _ _ => [r]
  | .bsub r _ _ _ _ => [r]
  | _ => []
def D.namesL : List D → List Nat
  | [] => []
  | d :: r => d.names ++ D.namesL r
end
theorem namesL_mem : ∀ {cs : List D} {s : Nat}, s ∈ D.namesL cs ↔ ∃ d ∈ cs, s ∈ d.names
  | [], s => by simp [D.namesL]
  | d :: r, s => by simp [D.namesL, namesL_mem (cs := r)]
mutual
/-- what names object r is forgotten -/
def D.kill (r : Nat) : D → D
  | .fn f cs => .fn f (D.killL r cs)
  | .agg cs => .agg (D.killL r cs)
  | .tup cs => .tup (D.killL r cs)
  | .box cs => .box (D.killL r cs)
  | .ref s => if s = r then .undef else .ref s
  | .addr s o => if s = r then .undef else .addr s o
  | .oaddr s z i k => if s = r then .undef else .oaddr s z i k
  | .osub s z l n => if s = r then .undef else .osub s z l n
  | .bsub s o z n c => if s = r then .undef else .bsub s o z n c
  | d => d
def D.killL (r : Nat) : List D → List D
  | [] => []
  | d :: l => d.kill r :: D.killL r l
end
theorem killL_map (r : Nat) : ∀ cs : List D, D.killL r cs = cs.map (D.kill r)
  | [] => rfl
  | d :: l => by rw [D.killL, killL_map r l]; rfl
def killE (r : Nat) (e : Env) : Env := ⟨fun j => (e.t j).kill r, fun j => if j = r then .undef else (e.o j).kill r⟩

/-- a datum that one cell may hold -/
def cellOk : D → Prop
  | .undef | .agg _ | .tup _ | .box _ | .own _ _ => False
  | _ => True
/-- a datum that a cell which stays may hold -/
def permOk (d : D) : Prop := cellOk d ∧ d.names = []

structure Cx where
  V : Addr → Option Value
  S : Nat → Option Value

/-- A value reads as the datum d, by what the cells V hold and what the objects' heads S are. -/
inductive RepV (C : Cx) : Value → D → Prop
  | undef (v : Value) : RepV C v .undef
  | bool (b : Bool) : RepV C (.bool b) (.bool b)
  | int (k : IntKind) (n : Int) : RepV C (.int k n) (.int k n)
  | str (s : ByteArray) : RepV C (.string s) (.str s)
  | nil : RepV C (.slice none 0 0) .nil
  | emp (a : Option Addr) : RepV C (.slice a 0 0) .emp
  | nilfn : RepV C .nilFunc .nilfn
  | nilif : RepV C .nilIface .nilif
  | someif (t : TypeId) (v : Value) : RepV C (.iface t v) .someif
  | nilp : RepV C (.pointer none) .nilp
  | fn (f : FuncId) (vs : Array Value) (ds : List D) : vs.size = ds.length → (∀ (i : Nat) v d, vs[i]? = some v → ds[i]? = some d → RepV C v d) → RepV C (.func (.func f) #[] vs) (.fn f ds)
  | agg (vs : Array Value) (ds : List D) : vs.size = ds.length → (∀ (i : Nat) v d, vs[i]? = some v → ds[i]? = some d → RepV C v d) → RepV C (.agg vs) (.agg ds)
  | tup (vs : Array Value) (ds : List D) : vs.size = ds.length → (∀ (i : Nat) v d, vs[i]? = some v → ds[i]? = some d → RepV C v d) → RepV C (.tuple vs) (.tup ds)
  | slnil (z : Nat) : RepV C (.slice none 0 0) (.sl z [])
  | sl (z : Nat) (a : Addr) (cap : Nat) (rows : List (List D)) (f : Nat → Nat → Value) : rows.length ≤ cap → (∀ r ∈ rows, r.length = z) → (∀ r ∈ rows, ∀ d ∈ r, permOk d) →
      (∀ (i j : Nat) r d, rows[i]? = some r → r[j]? = some d → C.V (a.add (i * z + j)) = some (f i j)) →
      (∀ (i j : Nat) r d, rows[i]? = some r → r[j]? = some d → RepV C (f i j) d) → RepV C (.slice (some a) rows.length cap) (.sl z rows)
  | eaddr (a : Addr) (cs : List D) (f : Nat → Value) : (∀ d ∈ cs, d.names = []) → (∀ (j : Nat) d, cs[j]? = some d → C.V (a.add j) = some (f j)) → (∀ (j : Nat) d, cs[j]? = some d → RepV C (f j) d) → RepV C (.pointer (some a)) (.eaddr cs)
  | ref (r : Nat) (a : Option Addr) (len cap : Nat) : C.S r = some (.slice a len cap) → RepV C (.slice a len cap) (.ref r)
  | addr (r off : Nat) (a : Addr) : C.S r = some (.pointer (some a)) → RepV C (.pointer (some (a.add off))) (.addr r off)
  | oaddr (r z i k : Nat) (a : Addr) (len cap : Nat) : C.S r = some (.slice (some a) len cap) → RepV C (.pointer (some (a.add (i * z + k)))) (.oaddr r z i k)
  | osub (r z lo len : Nat) (a a' : Option Addr) (L cap cap' : Nat) : C.S r = some (.slice a L cap) → (len ≠ 0 → ∃ b, a = some b ∧ a' = some (b.add (lo * z))) → len ≤ cap' → (a' = none → cap' = 0) → RepV C (.slice a' len cap') (.osub r z lo len)
  | bsub (r off z len cap : Nat) (a : Addr) (a' : Option Addr) : C.S r = some (.pointer (some a)) → (cap ≠ 0 → a' = some (a.add off)) → len ≤ cap → RepV C (.slice a' len cap) (.bsub r off z len cap)

/-- what is told stays true where the cells stay, and the objects that it names -/
theorem RepV.keep {C C' : Cx} (hV : ∀ a v, C.V a = some v → C'.V a = some v) {v : Value} {d : D} (r : RepV C v d) (hS : ∀ s ∈ d.names, ∀ u, C.S s = some u → C'.S s = some u) : RepV C' v d := by
  induction r with
  | undef v => exact .undef v
  | bool b => exact .bool b
  | int k n => exact .int k n
  | str s => exact .str s
  | nil => exact .nil
  | emp a => exact .emp a
  | nilfn => exact .nilfn
  | nilif => exact .nilif
  | someif t v => exact .someif t v
  | nilp => exact .nilp
  | fn f vs ds hl _ ih => exact .fn f vs ds hl fun i v d hi hd => ih i v d hi hd fun s hs => hS s (by simp only [D.names]; exact namesL_mem.2 ⟨d, List.mem_of_getElem? hd, hs⟩)
  | agg vs ds hl _ ih => exact .agg vs ds hl fun i v d hi hd => ih i v d hi hd fun s hs => hS s (by simp only [D.names]; exact namesL_mem.2 ⟨d, List.mem_of_getElem? hd, hs⟩)
  | tup vs ds hl _ ih => exact .tup vs ds hl fun i v d hi hd => ih i v d hi hd fun s hs => hS s (by simp only [D.names]; exact namesL_mem.2 ⟨d, List.mem_of_getElem? hd, hs⟩)
  | slnil z => exact .slnil z
  | sl z a cap rows f hl hz hk hc _ ih =>
    refine .sl z a cap rows f hl hz hk (fun i j r d hi hj => hV _ _ (hc i j r d hi hj)) fun i j r d hi hj => ih i j r d hi hj ?_
    intro s hs
    rw [(hk r (List.mem_of_getElem? hi) d (List.mem_of_getElem? hj)).2] at hs
    cases hs
  | eaddr a cs f hn hc _ ih =>
    refine .eaddr a cs f hn (fun j d hj => hV _ _ (hc j d hj)) fun j d hj => ih j d hj ?_
    intro s hs
    rw [hn d (List.mem_of_getElem? hj)] at hs
    cases hs
  | ref r a len cap h => exact .ref r a len cap (hS r (by simp [D.names]) _ h)
  | addr r off a h => exact .addr r off a (hS r (by simp [D.names]) _ h)
  | oaddr r z i k a len cap h => exact .oaddr r z i k a len cap (hS r (by simp [D.names]) _ h)
  | osub r z lo len a a' L cap cap' h h1 h2 h3 => exact .osub r z lo len a a' L cap cap' (hS r (by simp [D.names]) _ h) h1 h2 h3
  | bsub r off z len cap a a' h h1 h2 => exact .bsub r off z len cap a a' (hS r (by simp [D.names]) _ h) h1 h2
theorem RepV.mono {C C' : Cx} (hV : ∀ a v, C.V a = some v → C'.V a = some v) (hS : ∀ s u, C.S s = some u → C'.S s = some u) {v : Value} {d : D} (r : RepV C v d) : RepV C' v d :=
  r.keep hV fun s _ => hS s

mutual
theorem names_kill (r : Nat) : ∀ (d : D), ∀ s ∈ (d.kill r).names, s ∈ d.names ∧ s ≠ r
  | .fn f cs => fun s h => by simp only [D.kill, D.names] at h ⊢; exact namesL_kill r cs s h
  | .agg cs => fun s h => by simp only [D.kill, D.names] at h ⊢; exact namesL_kill r cs s h
  | .tup cs => fun s h => by simp only [D.kill, D.names] at h ⊢; exact namesL_kill r cs s h
  | .box cs => fun s h => by simp only [D.kill, D.names] at h ⊢; exact namesL_kill r cs s h
  | .ref t => fun s h => by simp only [D.kill] at h; split at h <;> simp_all [D.names]
  | .addr t o => fun s h => by simp only [D.kill] at h; split at h <;> simp_all [D.names]
  | .oaddr t z i k => fun s h => by simp only [D.kill] at h; split at h <;> simp_all [D.names]
  | .osub t z l n => fun s h => by simp only [D.kill] at h; split at h <;> simp_all [D.names]
  | .bsub t o z n c => fun s h => by simp only [D.kill] at h; split at h <;> simp_all [D.names]
  | .undef | .bool _ | .int _ _ | .str _ | .nil | .emp | .nilfn | .nilif | .someif | .nilp | .sl _ _ | .eaddr _ | .own _ _ => fun s h => by simp [D.kill, D.names] at h
theorem namesL_kill (r : Nat) : ∀ (cs : List D), ∀ s ∈ D.namesL (D.killL r cs), s ∈ D.namesL cs ∧ s ≠ r
  | [] => fun s h => by simp [D.killL, D.namesL] at h
  | d :: l => fun s h => by
    simp only [D.killL, D.namesL, List.mem_append] at h ⊢
    rcases h with h | h
    · exact ⟨.inl (names_kill r d s h).1, (names_kill r d s h).2⟩
    · exact ⟨.inr (namesL_kill r l s h).1, (namesL_kill r l s h).2⟩
end
theorem RepV.kill0 {C : Cx} {v : Value} {d : D} (r : Nat) (h : RepV C v d) : RepV C v (d.kill r) := by
  have lst : ∀ (vs : Array Value) (ds : List D), vs.size = ds.length → (∀ (i : Nat) v d, vs[i]? = some v → ds[i]? = some d → RepV C v (d.kill r)) →
      vs.size = (D.killL r ds).length ∧ ∀ (i : Nat) v d, vs[i]? = some v → (D.killL r ds)[i]? = some d → RepV C v d := by
    intro vs ds hl ih
    rw [killL_map]
    refine ⟨by simpa using hl, ?_⟩
    intro i v d hi hd
    simp only [List.getElem?_map] at hd
    cases e : ds[i]? with
    | none => rw [e] at hd; cases hd
    | some x => rw [e] at hd; cases hd; exact ih i v x hi e
  induction h with
  | fn f vs ds hl h ih => obtain ⟨h1, h2⟩ := lst vs ds hl ih; simp only [D.kill]; exact .fn f vs _ h1 h2
  | agg vs ds hl _ ih => obtain ⟨h1, h2⟩ := lst vs ds hl ih; simp only [D.kill]; exact .agg vs _ h1 h2
  | tup vs ds hl _ ih => obtain ⟨h1, h2⟩ := lst vs ds hl ih; simp only [D.kill]; exact .tup vs _ h1 h2
  | undef v => exact .undef v
  | bool b => exact .bool b
  | int k n => exact .int k n
  | str s => exact .str s
  | nil => exact .nil
  | emp a => exact .emp a
  | nilfn => exact .nilfn
  | nilif => exact .nilif
  | someif t v => exact .someif t v
  | nilp => exact .nilp
  | slnil z => exact .slnil z
  | sl z a cap rows f hl hz hk hc h1 _ => exact .sl z a cap rows f hl hz hk hc h1
  | eaddr a cs f hn hc h1 _ => exact .eaddr a cs f hn hc h1
  | ref r' a len cap h => simp only [D.kill]; split; exact .undef _; exact .ref r' a len cap h
  | addr r' off a h => simp only [D.kill]; split; exact .undef _; exact .addr r' off a h
  | oaddr r' z i k a len cap h => simp only [D.kill]; split; exact .undef _; exact .oaddr r' z i k a len cap h
  | osub r' z lo len a a' L cap cap' h h1 h2 h3 => simp only [D.kill]; split; exact .undef _; exact .osub r' z lo len a a' L cap cap' h h1 h2 h3
  | bsub r' off z len cap a a' h h1 h2 => simp only [D.kill]; split; exact .undef _; exact .bsub r' off z len cap a a' h h1 h2

/-- What may be read for good: a block with no level is read whole, one with a level below it. -/
def vis (w : World) (lev : Nat → Option Nat) (a : Addr) : Option Value :=
  match lev a.block with
  | none => w.cell? a
  | some n => if a.off < n then w.cell? a else none
theorem vis_cell {w : World} {lev : Nat → Option Nat} {a : Addr} {v : Value} (h : vis w lev a = some v) : w.cell? a = some v := by
  unfold vis at h
  split at h
  · exact h
  · split at h
    · exact h
    · cases h
abbrev cx (w : World) (lev : Nat → Option Nat) (S : Nat → Option Value) : Cx := ⟨vis w lev, S⟩

/-- Cells lo to hi of block b are the frame's: the block is new, or given with such a range. -/
def InG (G : Nat → Option (Nat × Nat)) (B b lo hi : Nat) : Prop := B ≤ b ∨ ∃ l h, G b = some (l, h) ∧ l ≤ lo ∧ hi ≤ h
/-- The object r that the frame owns. -/
def ObjAt (B : Nat) (G : Nat → Option (Nat × Nat)) (w : World) (lev own : Nat → Option Nat) (S : Nat → Option Value) (r : Nat) : D → Prop
  | .box cs => ∃ (b o : Nat) (c : Array Value) (E : TypeId), S r = some (.pointer (some ⟨b, o, none⟩)) ∧ w.heap[b]? = some (.cells c E (0, 0)) ∧ o + cs.length ≤ c.size ∧ lev b = some 0 ∧ own b = some r ∧
      InG G B b o (o + cs.length) ∧ ∀ (j : Nat) u e, c[o + j]? = some u → cs[j]? = some e → RepV (cx w lev S) u e
  | .own z rows => (∃ a, S r = some (.slice a 0 0) ∧ rows = []) ∨ ∃ (b : Nat) (c : Array Value) (E : TypeId) (cap : Nat), S r = some (.slice (some ⟨b, 0, none⟩) rows.length cap) ∧ w.heap[b]? = some (.cells c E (0, 0)) ∧
      c.size = cap * z ∧ rows.length ≤ cap ∧ (∀ r ∈ rows, r.length = z) ∧ (∀ r ∈ rows, ∀ d ∈ r, permOk d) ∧ lev b = some 0 ∧ own b = some r ∧ InG G B b 0 c.size ∧
      ∀ (i j : Nat) row d, rows[i]? = some row → row[j]? = some d → ∃ u, c[i * z + j]? = some u ∧ RepV (cx w lev S) u d
  | .undef => S r = none
  | _ => False

def tmOf (tmps : Array Value) : Nat → Value := fun t => tmps.getD t Go.undef

/-- Outside of lo to hi the block is as it was. -/
def PartAt (w0 w : World) (b lo hi : Nat) : Prop :=
  ∃ (c0 c : Array Value) (E : TypeId), w0.heap[b]? = some (.cells c0 E (0, 0)) ∧ w.heap[b]? = some (.cells c E (0, 0)) ∧ c.size = c0.size ∧ ∀ j, (j < lo ∨ hi ≤ j) → c[j]? = c0[j]?

/-- what is known of a package-level variable: a table of integers; an integer; an error -/
inductive TabK where
  | ints (k : IntKind) (l : List Int)
  | int1 (k : IntKind)
  | err1
def TabK.holds : TabK → Array Value → Prop
  | .ints k l, c => c = (l.map fun n => Value.int k n).toArray
  | .int1 k, c => ∃ n, c[0]? = some (.int k n)
  | .err1, c => ∃ v, c[0]? = some v ∧ (v = .nilIface ∨ ∃ t u, v = .iface t u)
/-- the package-level variables that are known: block, what stands in it -/
def tabs : List (Nat × TabK) := [(0, .ints .u64 Go.Lib.pow10Tab), (1, .int1 .i64), (2, .err1), (3, .err1)]
def TabW (w : World) (G : Nat → Option (Nat × Nat)) : Prop := ∀ t ∈ tabs, G t.1 = none ∧ ∃ E x c, w.heap[t.1]? = some (.cells c E x) ∧ t.2.holds c
structure Inv (w0 : World) (l0 : Nat → Option Nat) (G : Nat → Option (Nat × Nat)) (S0 : Nat → Option Value) (w : World) (lev own : Nat → Option Nat) (S : Nat → Option Value) (env : Env) (tm : Nat → Value) : Prop where
  os : w.os = w0.os ∧ TabW w0 G
  tape : w.tape = w0.tape
  output : w.output = w0.output
  size : w0.heap.size ≤ w.heap.size
  old : ∀ b, b < w0.heap.size → G b = none → w.heap[b]? = w0.heap[b]?
  part : ∀ b lo hi, G b = some (lo, hi) → PartAt w0 w b lo hi
  priv : ∀ b m, lev b = some m → b < w.heap.size
  levOld : ∀ b, b < w0.heap.size → G b = none → lev b = l0 b
  ent : ∀ i, i < 16 → env.o i ≠ .undef → S i = S0 i
  temps : ∀ s, RepV (cx w lev S) (tm s) (env.t s)
  objs : ∀ r, ObjAt w0.heap.size G w lev own S r (env.o r)

/-- From one world to the next: what was visible is so still. -/
def VisLe (w : World) (lev : Nat → Option Nat) (w' : World) (lev' : Nat → Option Nat) : Prop := ∀ a v, vis w lev a = some v → vis w' lev' a = some v
theorem RepV.vkeep {w w' : World} {lev lev' : Nat → Option Nat} {S S' : Nat → Option Value} {v : Value} {d : D} (r : RepV (cx w lev S) v d) (hv : VisLe w lev w' lev') (hS : ∀ s ∈ d.names, ∀ u, S s = some u → S' s = some u) : RepV (cx w' lev' S') v d :=
  RepV.keep (C := cx w lev S) (C' := cx w' lev' S') hv r hS
theorem RepV.vmono {w w' : World} {lev lev' : Nat → Option Nat} {S S' : Nat → Option Value} {v : Value} {d : D} (r : RepV (cx w lev S) v d) (hv : VisLe w lev w' lev') (hS : ∀ s u, S s = some u → S' s = some u) : RepV (cx w' lev' S') v d :=
  r.vkeep hv fun s _ => hS s
theorem VisLe.refl (w : World) (lev : Nat → Option Nat) : VisLe w lev w lev := fun _ _ h => h

end Go.Abs
