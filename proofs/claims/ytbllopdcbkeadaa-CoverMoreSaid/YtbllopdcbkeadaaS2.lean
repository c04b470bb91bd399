import Derived.Test.YtbllopdcbkeadaaS1
import Derived.Shelf.Bits.Mul64
set_option linter.unusedSimpArgs false
set_option linter.unusedVariables false
namespace Go.Proofs.Ytbllopdcbkeadaa
open Go.Abs
theorem shrN (a k : Nat) (hk : k ≤ 64) : ishr .u64 (a : Int) (k : Int) = ((a / 2 ^ k : Nat) : Int) := by
  unfold ishr
  have h1 : min (Int.toNat (k : Int)) (IntKind.bits .u64) = k := by simp [IntKind.bits]; omega
  rw [h1, Int.fdiv_eq_ediv_of_nonneg _ (by exact_mod_cast Nat.zero_le _)]
  push_cast
  rfl
theorem shr32N (a : Nat) : ishr .u64 (a : Int) 32 = ((a / 4294967296 : Nat) : Int) := shrN a 32 (by omega)
theorem shr16N (a : Nat) : ishr .u64 (a : Int) 16 = ((a / 65536 : Nat) : Int) := shrN a 16 (by omega)
theorem shr8N (a : Nat) : ishr .u64 (a : Int) 8 = ((a / 256 : Nat) : Int) := shrN a 8 (by omega)
def len8 : ByteArray := ⟨((List.append (α := UInt8) [0, 1, 2, 2, 3, 3, 3, 3, 4, 4, 4, 4, 4, 4, 4, 4, 5, 5, 5, 5, 5, 5, 5, 5, 5, 5, 5, 5, 5, 5, 5, 5, 6, 6, 6, 6, 6, 6, 6, 6, 6, 6, 6, 6, 6, 6, 6, 6, 6, 6, 6, 6, 6, 6, 6, 6, 6, 6, 6, 6, 6, 6, 6, 6] [7, 7, 7, 7, 7, 7, 7, 7, 7, 7, 7, 7, 7, 7, 7, 7, 7, 7, 7, 7, 7, 7, 7, 7, 7, 7, 7, 7, 7, 7, 7, 7, 7, 7, 7, 7, 7, 7, 7, 7, 7, 7, 7, 7, 7, 7, 7, 7, 7, 7, 7, 7, 7, 7, 7, 7, 7, 7, 7, 7, 7, 7, 7, 7]).append (List.append (α := UInt8) [8, 8, 8, 8, 8, 8, 8, 8, 8, 8, 8, 8, 8, 8, 8, 8, 8, 8, 8, 8, 8, 8, 8, 8, 8, 8, 8, 8, 8, 8, 8, 8, 8, 8, 8, 8, 8, 8, 8, 8, 8, 8, 8, 8, 8, 8, 8, 8, 8, 8, 8, 8, 8, 8, 8, 8, 8, 8, 8, 8, 8, 8, 8, 8] [8, 8, 8, 8, 8, 8, 8, 8, 8, 8, 8, 8, 8, 8, 8, 8, 8, 8, 8, 8, 8, 8, 8, 8, 8, 8, 8, 8, 8, 8, 8, 8, 8, 8, 8, 8, 8, 8, 8, 8, 8, 8, 8, 8, 8, 8, 8, 8, 8, 8, 8, 8, 8, 8, 8, 8, 8, 8, 8, 8, 8, 8, 8, 8])).toArray⟩
theorem tabEq : ByteArray.mk (((List.append (α := UInt8) [0, 1, 2, 2, 3, 3, 3, 3, 4, 4, 4, 4, 4, 4, 4, 4, 5, 5, 5, 5, 5, 5, 5, 5, 5, 5, 5, 5, 5, 5, 5, 5, 6, 6, 6, 6, 6, 6, 6, 6, 6, 6, 6, 6, 6, 6, 6, 6, 6, 6, 6, 6, 6, 6, 6, 6, 6, 6, 6, 6, 6, 6, 6, 6] [7, 7, 7, 7, 7, 7, 7, 7, 7, 7, 7, 7, 7, 7, 7, 7, 7, 7, 7, 7, 7, 7, 7, 7, 7, 7, 7, 7, 7, 7, 7, 7, 7, 7, 7, 7, 7, 7, 7, 7, 7, 7, 7, 7, 7, 7, 7, 7, 7, 7, 7, 7, 7, 7, 7, 7, 7, 7, 7, 7, 7, 7, 7, 7]).append (List.append (α := UInt8) [8, 8, 8, 8, 8, 8, 8, 8, 8, 8, 8, 8, 8, 8, 8, 8, 8, 8, 8, 8, 8, 8, 8, 8, 8, 8, 8, 8, 8, 8, 8, 8, 8, 8, 8, 8, 8, 8, 8, 8, 8, 8, 8, 8, 8, 8, 8, 8, 8, 8, 8, 8, 8, 8, 8, 8, 8, 8, 8, 8, 8, 8, 8, 8] [8, 8, 8, 8, 8, 8, 8, 8, 8, 8, 8, 8, 8, 8, 8, 8, 8, 8, 8, 8, 8, 8, 8, 8, 8, 8, 8, 8, 8, 8, 8, 8, 8, 8, 8, 8, 8, 8, 8, 8, 8, 8, 8, 8, 8, 8, 8, 8, 8, 8, 8, 8, 8, 8, 8, 8, 8, 8, 8, 8, 8, 8, 8, 8])).toArray) = len8 := rfl
def L8 (x : Nat) : Nat := ((len8[x]?).map (·.toNat)).getD 0
def L16 (x : Nat) : Nat := if 256 ≤ x then 8 + L8 (x / 256) else L8 x
def L32 (x : Nat) : Nat := if 65536 ≤ x then 16 + L16 (x / 65536) else L16 x
def L64 (x : Nat) : Nat := if 4294967296 ≤ x then 32 + L32 (x / 4294967296) else L32 x
theorem L8_all : (List.range 256).all (fun x => decide (x < 2 ^ L8 x) && (x == 0 || decide (2 ^ L8 x ≤ 2 * x)) && decide (L8 x ≤ 8)) = true := by kernel_rfl
theorem L8_ok (x : Nat) (h : x < 256) : x < 2 ^ L8 x ∧ (0 < x → 2 ^ L8 x ≤ 2 * x) ∧ L8 x ≤ 8 := by
  have := List.all_eq_true.1 L8_all x (List.mem_range.2 h)
  simp only [Bool.and_eq_true, Bool.or_eq_true, decide_eq_true_eq, beq_iff_eq] at this
  refine ⟨this.1.1, ?_, this.2⟩
  intro h0
  rcases this.1.2 with h1 | h1
  · omega
  · exact h1
theorem L16_ok (x : Nat) (h : x < 65536) : x < 2 ^ L16 x ∧ (0 < x → 2 ^ L16 x ≤ 2 * x) ∧ L16 x ≤ 16 := by
  unfold L16
  split
  · obtain ⟨h1, h2, h3⟩ := L8_ok (x / 256) (by omega)
    have := h2 (by omega)
    rw [Nat.pow_add]
    refine ⟨by omega, by omega, by omega⟩
  · obtain ⟨h1, h2, h3⟩ := L8_ok x (by omega); exact ⟨h1, h2, by omega⟩
theorem L32_ok (x : Nat) (h : x < 4294967296) : x < 2 ^ L32 x ∧ (0 < x → 2 ^ L32 x ≤ 2 * x) ∧ L32 x ≤ 32 := by
  unfold L32
  split
  · obtain ⟨h1, h2, h3⟩ := L16_ok (x / 65536) (by omega)
    have := h2 (by omega)
    rw [Nat.pow_add]
    refine ⟨by omega, by omega, by omega⟩
  · obtain ⟨h1, h2, h3⟩ := L16_ok x (by omega); exact ⟨h1, h2, by omega⟩
theorem L64_ok (x : Nat) (h : x < 18446744073709551616) : x < 2 ^ L64 x ∧ (0 < x → 2 ^ L64 x ≤ 2 * x) ∧ L64 x ≤ 64 := by
  unfold L64
  split
  · obtain ⟨h1, h2, h3⟩ := L32_ok (x / 4294967296) (by omega)
    have := h2 (by omega)
    rw [Nat.pow_add]
    refine ⟨by omega, by omega, by omega⟩
  · obtain ⟨h1, h2, h3⟩ := L32_ok x (by omega); exact ⟨h1, h2, by omega⟩
theorem u8w {x : Int} (h : 0 ≤ x) (h' : x < 256) : IntKind.wrap .u8 x = x := by rw [IntKind.wrap_u8]; omega
theorem w48 : IntKind.wrap .i64 48 = 48 := by decide
theorem w56 : IntKind.wrap .i64 56 = 56 := by decide
theorem w40 : IntKind.wrap .i64 40 = 40 := by decide
theorem w16 : IntKind.wrap .i64 16 = 16 := by decide
theorem w24 : IntKind.wrap .i64 24 = 24 := by decide
theorem w8 : IntKind.wrap .i64 8 = 8 := by decide
theorem l8D {i : Nat} : (((len8[i]?).map fun x => (x.toNat : Int)).getD 0) = (L8 i : Int) := by
  unfold L8; cases len8[i]? <;> simp
theorem L8_le (i : Nat) : L8 i ≤ 255 := by
  unfold L8
  cases len8[i]? with
  | none => simp
  | some b => simpa using Nat.le_of_lt_succ b.toNat_lt
theorem wL {c : Int} (h : 0 ≤ c ∧ c ≤ 100) (i : Nat) : IntKind.wrap .i64 (c + IntKind.wrap .i64 (L8 i : Int)) = c + L8 i := by
  have := L8_le i
  rw [wrap64 (x := (L8 i : Int)) (by omega) (by omega), wrap64 (by omega) (by omega)]
theorem wL0 (i : Nat) : IntKind.wrap .i64 (IntKind.wrap .i64 (L8 i : Int)) = L8 i := by
  have := L8_le i
  rw [wrap64 (x := (L8 i : Int)) (by omega) (by omega), wrap64 (by omega) (by omega)]
theorem len8_size : len8.size = 256 := by kernel_rfl
set_option maxRecDepth 20000 in
theorem len_spec (x : Nat) (hx : x < 18446744073709551616) : Abs.Spec Try.prog 106 [] [.int .u64 x] [] (.int .i64 (L64 x)) := by
  refine Abs.Spec.go (n := 25) (np := 1) (rs := [.tmp 2]) mixed Try.func106 rfl rfl rfl rfl rfl (by simp) (by simp) ?_
  simp only [go_sem, Nat.reduceAdd, Nat.reduceSub, Nat.reduceMul, Nat.reducePow, Nat.reduceEqDiff, Nat.reduceLT, Nat.reduceLeDiff, Nat.reduceBEq, Nat.reduceBNe, Int.reduceToNat, Int.reduceLT, Int.reduceLE, Int.reduceEq, Int.reduceBNe, Int.reduceBEq, Int.reduceAdd, Int.reduceSub, Int.reduceMul, Int.reduceNeg, ↓reduceIte]
  repeat' (with_reducible first
    | refine And.intro ?_ ?_
    | refine CondE.split (fun h => ?_) (fun h => ?_)
    | refine WeakK.id ?_
    | simp only [*, go_sem, Nat.reduceAdd, Nat.reduceSub, Nat.reduceMul, Nat.reducePow, Nat.reduceEqDiff, Nat.reduceLT, Nat.reduceLeDiff, Nat.reduceBEq, Nat.reduceBNe, Int.reduceToNat, Int.reduceLT, Int.reduceLE, Int.reduceEq, Int.reduceBNe, Int.reduceBEq, Int.reduceAdd, Int.reduceSub, Int.reduceMul, Int.reduceNeg, ↓reduceIte, shr32N, shr16N, shr8N, w48, w56, w40, w16, w24, w8, tabEq])
  all_goals (simp only [decide_eq_true_eq, decide_eq_false_iff_not] at *)
  all_goals first
    | (rw [len8_size, u8w (by omega) (by omega)]; omega)
    | skip
  all_goals (rw [u8w (by omega) (by omega), Int.toNat_natCast, l8D])
  all_goals (simp only [L64, L32, L16])
  all_goals (repeat (rw [if_pos (by omega)]))
  all_goals (repeat (rw [if_neg (by omega)]))
  all_goals (repeat (rw [if_pos (by omega)]))
  all_goals (repeat (rw [if_neg (by omega)]))
  all_goals (repeat (rw [if_pos (by omega)]))
  all_goals (rw [wL (by omega)])
  all_goals omega
theorem lz_spec (x : Nat) (hx : x < 18446744073709551616) : Abs.Spec Try.prog 100 [] [.int .u64 x] [] (.int .i64 ((64 - L64 x : Nat) : Int)) := by
  refine Abs.Spec.go (n := 6) (np := 1) (rs := [.tmp 2]) mixed Try.func100 rfl rfl rfl rfl rfl (by simp) (by simp) ?_
  simp only [go_sem, Nat.reduceAdd, Nat.reduceSub, Nat.reduceMul, Nat.reducePow, Nat.reduceEqDiff, Nat.reduceLT, Nat.reduceLeDiff, Nat.reduceBEq, Nat.reduceBNe, Int.reduceToNat, Int.reduceLT, Int.reduceLE, Int.reduceEq, Int.reduceBNe, Int.reduceBEq, Int.reduceAdd, Int.reduceSub, Int.reduceMul, Int.reduceNeg, ↓reduceIte]
  refine CallN.pure (len_spec x hx) ?_
  simp only [go_sem, Nat.reduceAdd, Nat.reduceSub, Nat.reduceMul, Nat.reducePow, Nat.reduceEqDiff, Nat.reduceLT, Nat.reduceLeDiff, Nat.reduceBEq, Nat.reduceBNe, Int.reduceToNat, Int.reduceLT, Int.reduceLE, Int.reduceEq, Int.reduceBNe, Int.reduceBEq, Int.reduceAdd, Int.reduceSub, Int.reduceMul, Int.reduceNeg, ↓reduceIte]
  have := (L64_ok x hx).2.2
  rw [wrap64 (by omega) (by omega)]; omega
theorem mask32 (a : Nat) : iand .u64 (a : Int) 4294967295 = ((a % 4294967296 : Nat) : Int) := by
  unfold iand
  rw [BitVec.toNat_and, BitVec.toNat_ofInt, BitVec.toNat_ofInt]
  simp only [IntKind.bits]
  have h : ((4294967295 : Int) % ((2 ^ 64 : Nat) : Int)).toNat = 2 ^ 32 - 1 := by omega
  rw [h, Nat.and_two_pow_sub_one_eq_mod, IntKind.wrap_u64]
  omega
theorem divNn (a b : Nat) : (a : Int).tdiv (b : Int) = ((a / b : Nat) : Int) := by rw [Int.tdiv_eq_ediv_of_nonneg (by omega)]; rfl
theorem modNn (a b : Nat) : (a : Int).tmod (b : Int) = ((a % b : Nat) : Int) := by rw [Int.tmod_eq_emod_of_nonneg (by omega)]; rfl
set_option maxRecDepth 20000 in
theorem mul64_spec (x y : Nat) (hx : x < 18446744073709551616) (hy : y < 18446744073709551616) : Abs.Spec Try.prog 76 [] [.int .u64 x, .int .u64 y] [] (.tup [.int .u64 ((x * y / 18446744073709551616 : Nat) : Int), .int .u64 ((x * y % 18446744073709551616 : Nat) : Int)]) := by
  obtain ⟨bd, bt, bw, hhi⟩ := Lib.mul64_hi x y hx hy
  have ba := Lib.half_mul_le (a := x / 4294967296) (b := y / 4294967296) (by omega) (by omega)
  have bb := Lib.half_mul_le (a := x / 4294967296) (b := y % 4294967296) (by omega) (by omega)
  have bc := Lib.half_mul_le (a := x % 4294967296) (b := y / 4294967296) (by omega) (by omega)
  have ba' : x / 4294967296 * (y / 4294967296) < 18446744073709551616 := by omega
  have bb' : x / 4294967296 * (y % 4294967296) < 18446744073709551616 := by omega
  have bc' : x % 4294967296 * (y / 4294967296) < 18446744073709551616 := by omega
  have bh1 : x / 4294967296 * (y / 4294967296) + (x / 4294967296 * (y % 4294967296) + x % 4294967296 * (y % 4294967296) / 4294967296) / 4294967296 < 18446744073709551616 := by omega
  have bh : x / 4294967296 * (y / 4294967296) + (x / 4294967296 * (y % 4294967296) + x % 4294967296 * (y % 4294967296) / 4294967296) / 4294967296 + ((x / 4294967296 * (y % 4294967296) + x % 4294967296 * (y % 4294967296) / 4294967296) % 4294967296 + x % 4294967296 * (y / 4294967296)) / 4294967296 < 18446744073709551616 := by omega
  refine Abs.Spec.go (n := 51) (np := 2) (rs := [.tmp 4, .tmp 5]) mixed Try.func76 rfl rfl rfl rfl rfl (by simp) (by simp) ?_
  simp only [mask32, shr32N, go_sem, Nat.reduceAdd, Nat.reduceSub, Nat.reduceMul, Nat.reducePow, Nat.reduceEqDiff, Nat.reduceLT, Nat.reduceLeDiff, Nat.reduceBEq, Nat.reduceBNe, Int.reduceToNat, Int.reduceLT, Int.reduceLE, Int.reduceEq, Int.reduceBNe, Int.reduceBEq, Int.reduceAdd, Int.reduceSub, Int.reduceMul, Int.reduceNeg, ↓reduceIte, Mul64.mulN, Mul64.addN, Mul64.wrapN _ bd, Mul64.wrapN _ bb', Mul64.wrapN _ bt, Mul64.wrapN _ bc', Mul64.wrapN _ bw, Mul64.wrapN _ ba', Mul64.wrapN _ bh1, Mul64.wrapN _ bh, Mul64.wrapM (x * y), hhi]
  exact Mul64.wrapN _ (hhi ▸ bh)
/-! ### division of two words by one -/
theorem pow_split {s : Nat} (hs : s ≤ 64) : 2 ^ (64 - s) * 2 ^ s = 18446744073709551616 := by
  rw [← Nat.pow_add, show 64 - s + s = 64 by omega]
theorem prep (hi lo y s : Nat) (hs : s ≤ 64) (hh : hi < y) (hl : lo < 18446744073709551616) :
    lo / 2 ^ (64 - s) < 2 ^ s ∧ hi * 2 ^ s + lo / 2 ^ (64 - s) < y * 2 ^ s ∧ (hi * 2 ^ s + lo / 2 ^ (64 - s)) * 18446744073709551616 + lo * 2 ^ s % 18446744073709551616 = (hi * 18446744073709551616 + lo) * 2 ^ s := by
  have hp := pow_split hs
  have h1 : lo / 2 ^ (64 - s) < 2 ^ s := by
    rw [Nat.div_lt_iff_lt_mul (Nat.two_pow_pos _), Nat.mul_comm, hp]; exact hl
  refine ⟨h1, ?_, ?_⟩
  · have h2 : (hi + 1) * 2 ^ s ≤ y * 2 ^ s := Nat.mul_le_mul_right _ hh
    rw [Nat.add_mul, Nat.one_mul] at h2
    omega
  · have h3 : lo * 2 ^ s / 18446744073709551616 = lo / 2 ^ (64 - s) := by
      rw [← hp, Nat.mul_div_mul_right _ _ (Nat.two_pow_pos s)]
    have h4 := Nat.div_add_mod (lo * 2 ^ s) 18446744073709551616
    rw [h3] at h4
    have h5 : hi * 18446744073709551616 * 2 ^ s = hi * 2 ^ s * 18446744073709551616 := by rw [Nat.mul_assoc, Nat.mul_comm 18446744073709551616, ← Nat.mul_assoc]
    rw [Nat.add_mul, Nat.add_mul, h5]
    omega
structure Dig (un d a b q r : Nat) : Prop where
  sum : q * a + r = un
  small : r < 4294967296
  top : q ≤ 4294967297
  least : (un * 4294967296 + d) / (a * 4294967296 + b) ≤ q
section
variable {un d a b q r : Nat}
theorem qv (q a b : Nat) : q * (a * 4294967296 + b) = q * a * 4294967296 + q * b := by rw [Nat.mul_add, Nat.mul_assoc]
theorem Dig.start (ha : 2147483648 ≤ a) (ha' : a < 4294967296) (hb : b < 4294967296) (hd : d < 4294967296) (hu : un < a * 4294967296 + b) : Dig un d a b (un / a) (un % a) := by
  have hm := Nat.div_add_mod un a
  have hl := Nat.mod_lt un (show 0 < a by omega)
  have hq : un / a ≤ 4294967297 := by
    apply Nat.le_of_lt_succ
    rw [Nat.div_lt_iff_lt_mul (by omega)]
    omega
  refine ⟨by rw [Nat.mul_comm]; exact hm, by omega, hq, ?_⟩
  apply Nat.le_of_lt_succ
  rw [Nat.div_lt_iff_lt_mul (by omega), Nat.succ_eq_add_one, qv, Nat.add_mul, Nat.one_mul]
  have : un / a * a = a * (un / a) := Nat.mul_comm _ _
  omega
theorem Dig.stop (h : Dig un d a b q r) (hv : 0 < a) (h1 : q * b ≤ 4294967296 * r + d) : q = (un * 4294967296 + d) / (a * 4294967296 + b) := by
  refine Nat.le_antisymm ?_ h.least
  rw [Nat.le_div_iff_mul_le (by omega), qv]
  have := h.sum
  omega
theorem Dig.step (h : Dig un d a b q r) (hu : un < a * 4294967296 + b) (hd : d < 4294967296) (h1 : 4294967296 ≤ q ∨ 4294967296 * r + d < q * b) :
    0 < q ∧ (q - 1) * a + (r + a) = un ∧ q - 1 ≤ 4294967296 ∧ (un * 4294967296 + d) / (a * 4294967296 + b) ≤ q - 1 := by
  have hq : 0 < q := by
    rcases h1 with h1 | h1
    · omega
    · rcases Nat.eq_zero_or_pos q with h0 | h0
      · subst h0; omega
      · exact h0
  obtain ⟨p, rfl⟩ : ∃ p, q = p + 1 := ⟨q - 1, by omega⟩
  have hs := h.sum
  rw [Nat.add_mul, Nat.one_mul] at hs
  have ht := h.top
  refine ⟨hq, by simp only [Nat.add_sub_cancel]; omega, by omega, ?_⟩
  simp only [Nat.add_sub_cancel]
  apply Nat.le_of_lt_succ
  rw [Nat.div_lt_iff_lt_mul (by omega), Nat.succ_eq_add_one, qv]
  have e1 : (p + 1) * a = p * a + a := by rw [Nat.add_mul, Nat.one_mul]
  have e2 : (p + 1) * b = p * b + b := by rw [Nat.add_mul, Nat.one_mul]
  rw [e1]
  rcases h1 with h1 | h1
  · have : 4294967296 * b ≤ (p + 1) * b := Nat.mul_le_mul_right _ h1
    have h2 : 4294967296 * a ≤ (p + 1) * a := Nat.mul_le_mul_right _ h1
    omega
  · have := h.small
    omega
theorem Dig.brk (hsum : q * a + r = un) (ht : q ≤ 4294967296) (hl : (un * 4294967296 + d) / (a * 4294967296 + b) ≤ q) (hb : b < 4294967296) (hv : 0 < a) (hr : 4294967296 ≤ r) : q = (un * 4294967296 + d) / (a * 4294967296 + b) := by
  refine Nat.le_antisymm ?_ hl
  rw [Nat.le_div_iff_mul_le (by omega), qv]
  have h1 : q * b ≤ 4294967296 * 4294967296 := Nat.mul_le_mul ht (by omega)
  omega
end
/-- the two digits -/
theorem two (N un W v : Nat) (hN : un * 18446744073709551616 + W = N) (hW : W < 18446744073709551616) (hv : 0 < v) (hu : un < v) :
    N / v = (un * 4294967296 + W / 4294967296) / v * 4294967296 + ((un * 4294967296 + W / 4294967296) % v * 4294967296 + W % 4294967296) / v ∧
    N % v = ((un * 4294967296 + W / 4294967296) % v * 4294967296 + W % 4294967296) % v := by
  have e1 := Nat.div_add_mod (un * 4294967296 + W / 4294967296) v
  have hN' : N = ((un * 4294967296 + W / 4294967296) % v * 4294967296 + W % 4294967296) + v * ((un * 4294967296 + W / 4294967296) / v * 4294967296) := by
    rw [← Nat.mul_assoc]; omega
  constructor
  · rw [hN', Nat.add_mul_div_left _ _ hv, Nat.add_comm]
  · rw [hN', Nat.add_mul_mod_self_left]
end Go.Proofs.Ytbllopdcbkeadaa
