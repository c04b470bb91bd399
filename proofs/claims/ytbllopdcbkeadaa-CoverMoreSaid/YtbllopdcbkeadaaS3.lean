/- Division of two words by one; no theorem of a claim. -/
import Derived.Test.YtbllopdcbkeadaaS2
set_option linter.unusedSimpArgs false
set_option linter.unusedVariables false
namespace Go.Proofs.Ytbllopdcbkeadaa
open Go.Abs
theorem shlN (a k : Nat) (hk : k ≤ 64) : ishl .u64 (a : Int) (k : Int) = ((a * 2 ^ k % 18446744073709551616 : Nat) : Int) := by
  unfold ishl
  have h1 : min (Int.toNat (k : Int)) (IntKind.bits .u64) = k := by simp [IntKind.bits]; omega
  rw [h1, IntKind.wrap_u64, Int.natCast_emod, Int.natCast_mul, Int.natCast_pow]
  rfl
theorem orN (a b k : Nat) (hb : b < 2 ^ k) (h : a * 2 ^ k + b < 18446744073709551616) : ior .u64 ((a * 2 ^ k : Nat) : Int) (b : Int) = ((a * 2 ^ k + b : Nat) : Int) := by
  unfold ior
  rw [BitVec.toNat_or, BitVec.toNat_ofInt, BitVec.toNat_ofInt]
  simp only [IntKind.bits]
  have h1 : (((a * 2 ^ k : Nat) : Int) % ((2 ^ 64 : Nat) : Int)).toNat = a * 2 ^ k := by omega
  have h2 : ((b : Int) % ((2 ^ 64 : Nat) : Int)).toNat = b := by omega
  rw [h1, h2, Nat.mul_comm a, ← Nat.two_pow_add_eq_or_of_lt hb, Nat.mul_comm, IntKind.wrap_u64]
  omega
theorem wrap3 (a b X m : Int) (h : X + m = a + b) (h0 : 0 ≤ m) (h1 : m < 18446744073709551616) : IntKind.wrap .u64 (IntKind.wrap .u64 (IntKind.wrap .u64 a + b) - IntKind.wrap .u64 X) = m := by
  simp only [IntKind.wrap_u64]
  rw [Int.emod_add_emod, ← Int.sub_emod, ← h, show X + m - X = m by omega]
  exact Int.emod_eq_of_lt h0 h1
theorem divE (un w v q m : Nat) (hq : q = (un * 4294967296 + w) / v) (hm : m = (un * 4294967296 + w) % v) (hv : m < v) (hv2 : v < 18446744073709551616) : IntKind.wrap .u64 (IntKind.wrap .u64 (IntKind.wrap .u64 ((un : Int) * 4294967296) + (w : Int)) - IntKind.wrap .u64 ((q : Int) * (v : Int))) = (m : Int) := by
  have h0 := Nat.div_add_mod (un * 4294967296 + w) v
  rw [← hm, ← hq, Nat.mul_comm v] at h0
  refine wrap3 _ _ _ _ ?_ (Int.natCast_nonneg _) ?_
  · rw [Mul64.mulN]
    generalize q * v = x at h0 ⊢
    omega
  · omega
theorem add2 (q q0 Q : Nat) (h : q * 4294967296 + q0 = Q) (hQ : Q < 18446744073709551616) : IntKind.wrap .u64 (IntKind.wrap .u64 ((q : Int) * 4294967296) + (q0 : Int)) = (Q : Int) := by
  simp only [IntKind.wrap_u64]; omega
set_option maxRecDepth 20000 in
set_option maxHeartbeats 1000000 in
theorem div64_spec (hi lo y : Nat) (hy : y < 18446744073709551616) (hh : hi < y) (hl : lo < 18446744073709551616) : Abs.Spec Try.prog 75 [] [.int .u64 hi, .int .u64 lo, .int .u64 y] [] (.tup [.int .u64 ((hi * 18446744073709551616 + lo) / y : Nat), .int .u64 ((hi * 18446744073709551616 + lo) % y : Nat)]) := by
  have h1 : ((y : Int) == 0) = false := by simp; omega
  have h2 : decide ((y : Int) ≤ hi) = false := by simp; omega
  refine Abs.Spec.go (n := 135) (np := 3) (rs := [.tmp 6, .tmp 7]) mixed Try.func75 rfl rfl rfl rfl rfl (by simp) (by simp) ?_
  simp only [mask32, shr32N, go_sem, Nat.reduceAdd, Nat.reduceSub, Nat.reduceMul, Nat.reducePow, Nat.reduceEqDiff, Nat.reduceLT, Nat.reduceLeDiff, Nat.reduceBEq, Nat.reduceBNe, Int.reduceToNat, Int.reduceLT, Int.reduceLE, Int.reduceEq, Int.reduceBNe, Int.reduceBEq, Int.reduceAdd, Int.reduceSub, Int.reduceMul, Int.reduceNeg, ↓reduceIte, h1, h2]
  refine CondE.split (fun h => ?_) (fun h => ?_)
  · simp only [mask32, shr32N, go_sem, Nat.reduceAdd, Nat.reduceSub, Nat.reduceMul, Nat.reducePow, Nat.reduceEqDiff, Nat.reduceLT, Nat.reduceLeDiff, Nat.reduceBEq, Nat.reduceBNe, Int.reduceToNat, Int.reduceLT, Int.reduceLE, Int.reduceEq, Int.reduceBNe, Int.reduceBEq, Int.reduceAdd, Int.reduceSub, Int.reduceMul, Int.reduceNeg, ↓reduceIte, h1, h2, h]
    have : hi = 0 := by simpa using h
    subst this
    refine ⟨DrawN.mk (by kernel_rfl), ?_, ?_, ?_, ?_⟩
    · omega
    · omega
    · rw [divNn, Mul64.wrapN]
      · simp
      · exact Nat.lt_of_le_of_lt (Nat.div_le_self _ _) hl
    · rw [modNn]; simp
  · obtain ⟨l1, l2, l3⟩ := L64_ok y hy
    have l2 := l2 (by omega)
    obtain ⟨s, hs⟩ : ∃ s, s = 64 - L64 y := ⟨_, rfl⟩
    have hs64 : s ≤ 64 := by omega
    have hp : 2 ^ L64 y * 2 ^ s = 18446744073709551616 := by rw [← Nat.pow_add, show L64 y + s = 64 by omega]
    have hv1 : y * 2 ^ s < 18446744073709551616 := by rw [← hp]; exact Nat.mul_lt_mul_of_pos_right l1 (Nat.two_pow_pos s)
    have hv2 : 18446744073709551616 ≤ 2 * (y * 2 ^ s) := by rw [← hp, ← Nat.mul_assoc]; exact Nat.mul_le_mul_right _ l2
    obtain ⟨p1, p2, p3⟩ := prep hi lo y s hs64 hh hl
    obtain ⟨v, hv⟩ : ∃ v, v = y * 2 ^ s := ⟨_, rfl⟩
    obtain ⟨un, hun⟩ : ∃ un, un = hi * 2 ^ s + lo / 2 ^ (64 - s) := ⟨_, rfl⟩
    obtain ⟨W, hW⟩ : ∃ W, W = lo * 2 ^ s % 18446744073709551616 := ⟨_, rfl⟩
    have hvl : v < 18446744073709551616 := by rw [hv]; exact hv1
    have hvg : 18446744073709551616 ≤ 2 * v := by rw [hv]; exact hv2
    have huv : un < v := by rw [hun, hv]; exact p2
    have hA : hi * 2 ^ s ≤ un := by rw [hun]; exact Nat.le_add_right _ _
    have hWl : W < 18446744073709551616 := by rw [hW]; exact Nat.mod_lt _ (by decide)
    have e1 : IntKind.wrap .u64 ((64 - L64 y : Nat) : Int) = (s : Int) := by rw [← hs, Mul64.wrapN _ (by omega)]
    have e2 : ishl .u64 (y : Int) (s : Int) = (v : Int) := by rw [shlN _ _ hs64, hv, Nat.mod_eq_of_lt hv1]
    have e3 : IntKind.wrap .u64 (64 - (s : Int)) = ((64 - s : Nat) : Int) := by rw [IntKind.wrap_u64]; omega
    have e4 : ishl .u64 (hi : Int) (s : Int) = ((hi * 2 ^ s : Nat) : Int) := by rw [shlN _ _ hs64, Nat.mod_eq_of_lt (Nat.lt_of_le_of_lt hA (Nat.lt_trans huv hvl))]
    have e5 : ishr .u64 (lo : Int) ((64 - s : Nat) : Int) = ((lo / 2 ^ (64 - s) : Nat) : Int) := shrN _ _ (by omega)
    have e6 : ior .u64 ((hi * 2 ^ s : Nat) : Int) ((lo / 2 ^ (64 - s) : Nat) : Int) = (un : Int) := by rw [orN _ _ _ p1 (Nat.lt_trans p2 hv1), hun]
    have e7 : ishl .u64 (lo : Int) (s : Int) = (W : Int) := by rw [shlN _ _ hs64, hW]
    have hva : v = v / 4294967296 * 4294967296 + v % 4294967296 := by omega
    have e8 : IntKind.wrap .u64 ((un / (v / 4294967296) : Nat) : Int) = ((un / (v / 4294967296) : Nat) : Int) := Mul64.wrapN _ (Nat.lt_of_le_of_lt (Nat.div_le_self _ _) (by omega))
    have d1 : Dig un (W / 4294967296) (v / 4294967296) (v % 4294967296) (un / (v / 4294967296)) (un % (v / 4294967296)) := Dig.start (by omega) (by omega) (by omega) (by omega) (by omega)
    have e9 : IntKind.wrap .u64 ((un : Int) - IntKind.wrap .u64 (((un / (v / 4294967296) : Nat) : Int) * ((v / 4294967296 : Nat) : Int))) = ((un % (v / 4294967296) : Nat) : Int) := by
      have := d1.sum
      rw [Mul64.mulN, Mul64.wrapN _ (by omega), IntKind.wrap_u64]
      omega
    simp only [mask32, shr32N, go_sem, Nat.reduceAdd, Nat.reduceSub, Nat.reduceMul, Nat.reducePow, Nat.reduceEqDiff, Nat.reduceLT, Nat.reduceLeDiff, Nat.reduceBEq, Nat.reduceBNe, Int.reduceToNat, Int.reduceLT, Int.reduceLE, Int.reduceEq, Int.reduceBNe, Int.reduceBEq, Int.reduceAdd, Int.reduceSub, Int.reduceMul, Int.reduceNeg, ↓reduceIte, h1, h2, h]
    refine CallN.pure (lz_spec y hy) ?_
    simp only [mask32, shr32N, go_sem, Nat.reduceAdd, Nat.reduceSub, Nat.reduceMul, Nat.reducePow, Nat.reduceEqDiff, Nat.reduceLT, Nat.reduceLeDiff, Nat.reduceBEq, Nat.reduceBNe, Int.reduceToNat, Int.reduceLT, Int.reduceLE, Int.reduceEq, Int.reduceBNe, Int.reduceBEq, Int.reduceAdd, Int.reduceSub, Int.reduceMul, Int.reduceNeg, ↓reduceIte, h1, h2, h, e1, e2, e3, e4, e5, e6, e7, divNn, e8, e9]
    repeat (refine And.intro (by omega) ?_)
    have fin : ∀ x : Nat, (hi * 18446744073709551616 + lo) * 2 ^ s / v = x → x = (hi * 18446744073709551616 + lo) / y := fun x hx => by
      rw [← hx, hv, Nat.mul_div_mul_right _ _ (Nat.two_pow_pos s)]
    have fin2 : ∀ x : Nat, (hi * 18446744073709551616 + lo) * 2 ^ s % v = x → x / 2 ^ s = (hi * 18446744073709551616 + lo) % y := fun x hx => by
      rw [← hx, hv, Nat.mul_mod_mul_right, Nat.mul_div_cancel _ (Nat.two_pow_pos s)]
    obtain ⟨t1, t2⟩ := two ((hi * 18446744073709551616 + lo) * 2 ^ s) un W v (by rw [hun, hW]; exact p3) hWl (by omega) huv
    have fin := fin _ t1
    have fin2 := fin2 _ t2
    have hsr : ∀ a : Nat, ishr .u64 (a : Int) (s : Int) = ((a / 2 ^ s : Nat) : Int) := fun a => shrN a s hs64
    clear p1 p2 p3 hv1 hv2 hp hW hun hA e1 e2 e3 e4 e5 e6 e7 l1 l2 l3 t1 t2 hv hs
    have vpos : 0 < v / 4294967296 := by omega
    obtain ⟨m, hm⟩ : ∃ m, m = (un * 4294967296 + W / 4294967296) % v := ⟨_, rfl⟩
    have hmv : m < v := by rw [hm]; exact Nat.mod_lt _ (by omega)
    have hmv' : m < v / 4294967296 * 4294967296 + v % 4294967296 := by rw [← hva]; exact hmv
    obtain ⟨q1, hq1⟩ : ∃ q1, q1 = (un * 4294967296 + W / 4294967296) / v := ⟨_, rfl⟩
    rw [← hm, ← hq1] at fin
    rw [← hm] at fin2
    have huv' : un < v / 4294967296 * 4294967296 + v % 4294967296 := by rw [← hva]; exact huv
    have hvr := hva.symm
    refine cut_loop (T := Unit) (fun _ => [(2, .int .u64 v), (6, .int .u64 0), (7, .int .u64 0), (8, .int .u64 s), (9, .int .u64 (v / 4294967296 : Nat)), (10, .int .u64 (v % 4294967296 : Nat)), (11, .int .u64 un), (13, .int .u64 (W / 4294967296 : Nat)), (14, .int .u64 (W % 4294967296 : Nat)), (15, .int .u64 q1)]) (fun _ => []) (fun _ => True) (by rfl) ?_ ?_
    · rintro ⟨⟩ -
      have e10 := divE un (W / 4294967296) v q1 m hq1 hm hmv hvl
      have e11 : IntKind.wrap .u64 ((m / (v / 4294967296) : Nat) : Int) = ((m / (v / 4294967296) : Nat) : Int) := Mul64.wrapN _ (Nat.lt_of_le_of_lt (Nat.div_le_self _ _) (by omega))
      have d2 : Dig m (W % 4294967296) (v / 4294967296) (v % 4294967296) (m / (v / 4294967296)) (m % (v / 4294967296)) := Dig.start (by omega) (by omega) (by omega) (by omega) hmv'
      have e12 : IntKind.wrap .u64 ((m : Int) - IntKind.wrap .u64 (((m / (v / 4294967296) : Nat) : Int) * ((v / 4294967296 : Nat) : Int))) = ((m % (v / 4294967296) : Nat) : Int) := by
        have := d2.sum
        rw [Mul64.mulN, Mul64.wrapN _ (by omega), IntKind.wrap_u64]
        omega
      simp only [mask32, shr32N, go_sem, Nat.reduceAdd, Nat.reduceSub, Nat.reduceMul, Nat.reducePow, Nat.reduceEqDiff, Nat.reduceLT, Nat.reduceLeDiff, Nat.reduceBEq, Nat.reduceBNe, Int.reduceToNat, Int.reduceLT, Int.reduceLE, Int.reduceEq, Int.reduceBNe, Int.reduceBEq, Int.reduceAdd, Int.reduceSub, Int.reduceMul, Int.reduceNeg, ↓reduceIte, divNn, e10, e11, e12]
      repeat (refine And.intro (by omega) ?_)
      refine cut_loop (T := Unit) (fun _ => [(2, .int .u64 v), (8, .int .u64 s), (14, .int .u64 (W % 4294967296 : Nat)), (15, .int .u64 q1), (17, .int .u64 m), (18, .int .u64 ((m * 4294967296 + W % 4294967296) / v : Nat))]) (fun _ => []) (fun _ => True) (by rfl) ?_ ?_
      · rintro ⟨⟩ -
        simp only [mask32, shr32N, go_sem, Nat.reduceAdd, Nat.reduceSub, Nat.reduceMul, Nat.reducePow, Nat.reduceEqDiff, Nat.reduceLT, Nat.reduceLeDiff, Nat.reduceBEq, Nat.reduceBNe, Int.reduceToNat, Int.reduceLT, Int.reduceLE, Int.reduceEq, Int.reduceBNe, Int.reduceBEq, Int.reduceAdd, Int.reduceSub, Int.reduceMul, Int.reduceNeg, ↓reduceIte, divNn]
        have g1 : IntKind.wrap .u64 (IntKind.wrap .u64 ((q1 : Int) * 4294967296) + (((m * 4294967296 + W % 4294967296) / v : Nat) : Int)) = (((hi * 18446744073709551616 + lo) / y : Nat) : Int) := by
          have hQ : (hi * 18446744073709551616 + lo) / y < 18446744073709551616 := by
            rw [Nat.div_lt_iff_lt_mul (by omega)]
            omega
          exact add2 q1 _ _ fin hQ
        have g2 := divE m (W % 4294967296) v ((m * 4294967296 + W % 4294967296) / v) ((m * 4294967296 + W % 4294967296) % v) rfl rfl (Nat.mod_lt _ (by omega)) hvl
        rw [g1, g2, hsr, fin2]
        exact ⟨rfl, rfl⟩
      refine ⟨Nat × Nat, fun x => [(2, .int .u64 v), (6, .int .u64 0), (7, .int .u64 0), (8, .int .u64 s), (9, .int .u64 (v / 4294967296 : Nat)), (10, .int .u64 (v % 4294967296 : Nat)), (14, .int .u64 (W % 4294967296 : Nat)), (15, .int .u64 q1), (17, .int .u64 m), (18, .int .u64 x.1), (16, .int .u64 x.2)], fun _ => [], fun x => Dig m (W % 4294967296) (v / 4294967296) (v % 4294967296) x.1 x.2, fun x => x.1, (m / (v / 4294967296), m % (v / 4294967296)), d2, ?_, ?_⟩
      · simp only [go_sem, Nat.reduceAdd, Nat.reduceSub, Nat.reduceMul, Nat.reducePow, Nat.reduceEqDiff, Nat.reduceLT, Nat.reduceLeDiff, Nat.reduceBEq, Nat.reduceBNe, Int.reduceToNat, Int.reduceLT, Int.reduceLE, Int.reduceEq, Int.reduceBNe, Int.reduceBEq, Int.reduceAdd, Int.reduceSub, Int.reduceMul, Int.reduceNeg, ↓reduceIte]
      · rintro ⟨q, r⟩ dg
        simp only at dg
        have hsm := dg.small
        have htp := dg.top
        have hsum := dg.sum
        have f1 : IntKind.wrap .u64 (4294967296 * (r : Int)) = ((4294967296 * r : Nat) : Int) := by rw [IntKind.wrap_u64]; omega
        have f2 : IntKind.wrap .u64 (((4294967296 * r : Nat) : Int) + ((W % 4294967296 : Nat) : Int)) = ((4294967296 * r + W % 4294967296 : Nat) : Int) := by rw [IntKind.wrap_u64]; omega
        have f4 : IntKind.wrap .u64 ((r : Int) + ((v / 4294967296 : Nat) : Int)) = ((r + v / 4294967296 : Nat) : Int) := by rw [IntKind.wrap_u64]; omega
        have step : (4294967296 ≤ q ∨ 4294967296 * r + W % 4294967296 < q * (v % 4294967296)) → IntKind.wrap .u64 ((q : Int) - 1) = ((q - 1 : Nat) : Int) := fun hx => by
          have := (dg.step hmv' (by omega) hx).1
          rw [IntKind.wrap_u64]; omega
        simp only [mask32, shr32N, go_sem, Nat.reduceAdd, Nat.reduceSub, Nat.reduceMul, Nat.reducePow, Nat.reduceEqDiff, Nat.reduceLT, Nat.reduceLeDiff, Nat.reduceBEq, Nat.reduceBNe, Int.reduceToNat, Int.reduceLT, Int.reduceLE, Int.reduceEq, Int.reduceBNe, Int.reduceBEq, Int.reduceAdd, Int.reduceSub, Int.reduceMul, Int.reduceNeg, ↓reduceIte]
        refine GuardK.splitN (fun hq => ?_) (fun hq => ?_)
        · have hq' : q < 4294967296 := by simp at hq; omega
          have hb : q * (v % 4294967296) < 18446744073709551616 := by
            have := Nat.mul_le_mul (show q ≤ 4294967295 by omega) (show v % 4294967296 ≤ 4294967295 by omega)
            omega
          simp only [mask32, shr32N, go_sem, Nat.reduceAdd, Nat.reduceSub, Nat.reduceMul, Nat.reducePow, Nat.reduceEqDiff, Nat.reduceLT, Nat.reduceLeDiff, Nat.reduceBEq, Nat.reduceBNe, Int.reduceToNat, Int.reduceLT, Int.reduceLE, Int.reduceEq, Int.reduceBNe, Int.reduceBEq, Int.reduceAdd, Int.reduceSub, Int.reduceMul, Int.reduceNeg, ↓reduceIte, hq, f1, f2, Mul64.mulN, Mul64.wrapN _ hb]
          refine CondE.split (fun hc => ?_) (fun hc => ?_)
          · have hx : 4294967296 * r + W % 4294967296 < q * (v % 4294967296) := by rw [decide_eq_true_eq] at hc; exact_mod_cast hc
            obtain ⟨s1, s2, s3, s4⟩ := dg.step hmv' (by omega) (.inr hx)
            simp only [go_sem, Nat.reduceAdd, Nat.reduceSub, Nat.reduceMul, Nat.reducePow, Nat.reduceEqDiff, Nat.reduceLT, Nat.reduceLeDiff, Nat.reduceBEq, Nat.reduceBNe, Int.reduceToNat, Int.reduceLT, Int.reduceLE, Int.reduceEq, Int.reduceBNe, Int.reduceBEq, Int.reduceAdd, Int.reduceSub, Int.reduceMul, Int.reduceNeg, ↓reduceIte, step (.inr hx), f4]
            refine CondE.split (fun hr => ?_) (fun hr => ?_)
            · simp only [go_sem, Nat.reduceAdd, Nat.reduceSub, Nat.reduceMul, Nat.reducePow, Nat.reduceEqDiff, Nat.reduceLT, Nat.reduceLeDiff, Nat.reduceBEq, Nat.reduceBNe, Int.reduceToNat, Int.reduceLT, Int.reduceLE, Int.reduceEq, Int.reduceBNe, Int.reduceBEq, Int.reduceAdd, Int.reduceSub, Int.reduceMul, Int.reduceNeg, ↓reduceIte]
              have hqt := Dig.brk s2 s3 s4 (by omega) vpos (by rw [decide_eq_true_eq] at hr; omega)
              rw [hvr] at hqt
              refine ⟨(), trivial, ?_⟩
              simp only [go_sem, Nat.reduceAdd, Nat.reduceSub, Nat.reduceMul, Nat.reducePow, Nat.reduceEqDiff, Nat.reduceLT, Nat.reduceLeDiff, Nat.reduceBEq, Nat.reduceBNe, Int.reduceToNat, Int.reduceLT, Int.reduceLE, Int.reduceEq, Int.reduceBNe, Int.reduceBEq, Int.reduceAdd, Int.reduceSub, Int.reduceMul, Int.reduceNeg, ↓reduceIte, hqt]
            · simp only [go_sem, Nat.reduceAdd, Nat.reduceSub, Nat.reduceMul, Nat.reducePow, Nat.reduceEqDiff, Nat.reduceLT, Nat.reduceLeDiff, Nat.reduceBEq, Nat.reduceBNe, Int.reduceToNat, Int.reduceLT, Int.reduceLE, Int.reduceEq, Int.reduceBNe, Int.reduceBEq, Int.reduceAdd, Int.reduceSub, Int.reduceMul, Int.reduceNeg, ↓reduceIte]
              refine ⟨(q - 1, r + v / 4294967296), ⟨s2, by rw [decide_eq_false_iff_not] at hr; omega, by omega, s4⟩, ?_, by simp only; omega⟩
              simp only [go_sem, Nat.reduceAdd, Nat.reduceSub, Nat.reduceMul, Nat.reducePow, Nat.reduceEqDiff, Nat.reduceLT, Nat.reduceLeDiff, Nat.reduceBEq, Nat.reduceBNe, Int.reduceToNat, Int.reduceLT, Int.reduceLE, Int.reduceEq, Int.reduceBNe, Int.reduceBEq, Int.reduceAdd, Int.reduceSub, Int.reduceMul, Int.reduceNeg, ↓reduceIte]
          · simp only [go_sem, Nat.reduceAdd, Nat.reduceSub, Nat.reduceMul, Nat.reducePow, Nat.reduceEqDiff, Nat.reduceLT, Nat.reduceLeDiff, Nat.reduceBEq, Nat.reduceBNe, Int.reduceToNat, Int.reduceLT, Int.reduceLE, Int.reduceEq, Int.reduceBNe, Int.reduceBEq, Int.reduceAdd, Int.reduceSub, Int.reduceMul, Int.reduceNeg, ↓reduceIte]
            have hqt := dg.stop vpos (by rw [decide_eq_false_iff_not] at hc; have hc' := Int.not_lt.1 hc; exact_mod_cast hc')
            rw [hvr] at hqt
            refine ⟨(), trivial, ?_⟩
            simp only [go_sem, Nat.reduceAdd, Nat.reduceSub, Nat.reduceMul, Nat.reducePow, Nat.reduceEqDiff, Nat.reduceLT, Nat.reduceLeDiff, Nat.reduceBEq, Nat.reduceBNe, Int.reduceToNat, Int.reduceLT, Int.reduceLE, Int.reduceEq, Int.reduceBNe, Int.reduceBEq, Int.reduceAdd, Int.reduceSub, Int.reduceMul, Int.reduceNeg, ↓reduceIte, hqt]
        · have hx : 4294967296 ≤ q := by simp at hq; omega
          obtain ⟨s1, s2, s3, s4⟩ := dg.step hmv' (by omega) (.inl hx)
          simp only [mask32, shr32N, go_sem, Nat.reduceAdd, Nat.reduceSub, Nat.reduceMul, Nat.reducePow, Nat.reduceEqDiff, Nat.reduceLT, Nat.reduceLeDiff, Nat.reduceBEq, Nat.reduceBNe, Int.reduceToNat, Int.reduceLT, Int.reduceLE, Int.reduceEq, Int.reduceBNe, Int.reduceBEq, Int.reduceAdd, Int.reduceSub, Int.reduceMul, Int.reduceNeg, ↓reduceIte, hq, step (.inl hx), f4]
          refine CondE.split (fun hr => ?_) (fun hr => ?_)
          · simp only [go_sem, Nat.reduceAdd, Nat.reduceSub, Nat.reduceMul, Nat.reducePow, Nat.reduceEqDiff, Nat.reduceLT, Nat.reduceLeDiff, Nat.reduceBEq, Nat.reduceBNe, Int.reduceToNat, Int.reduceLT, Int.reduceLE, Int.reduceEq, Int.reduceBNe, Int.reduceBEq, Int.reduceAdd, Int.reduceSub, Int.reduceMul, Int.reduceNeg, ↓reduceIte]
            have hqt := Dig.brk s2 s3 s4 (by omega) vpos (by rw [decide_eq_true_eq] at hr; omega)
            rw [hvr] at hqt
            refine ⟨(), trivial, ?_⟩
            simp only [go_sem, Nat.reduceAdd, Nat.reduceSub, Nat.reduceMul, Nat.reducePow, Nat.reduceEqDiff, Nat.reduceLT, Nat.reduceLeDiff, Nat.reduceBEq, Nat.reduceBNe, Int.reduceToNat, Int.reduceLT, Int.reduceLE, Int.reduceEq, Int.reduceBNe, Int.reduceBEq, Int.reduceAdd, Int.reduceSub, Int.reduceMul, Int.reduceNeg, ↓reduceIte, hqt]
          · simp only [go_sem, Nat.reduceAdd, Nat.reduceSub, Nat.reduceMul, Nat.reducePow, Nat.reduceEqDiff, Nat.reduceLT, Nat.reduceLeDiff, Nat.reduceBEq, Nat.reduceBNe, Int.reduceToNat, Int.reduceLT, Int.reduceLE, Int.reduceEq, Int.reduceBNe, Int.reduceBEq, Int.reduceAdd, Int.reduceSub, Int.reduceMul, Int.reduceNeg, ↓reduceIte]
            refine ⟨(q - 1, r + v / 4294967296), ⟨s2, by rw [decide_eq_false_iff_not] at hr; omega, by omega, s4⟩, ?_, by simp only; omega⟩
            simp only [go_sem, Nat.reduceAdd, Nat.reduceSub, Nat.reduceMul, Nat.reducePow, Nat.reduceEqDiff, Nat.reduceLT, Nat.reduceLeDiff, Nat.reduceBEq, Nat.reduceBNe, Int.reduceToNat, Int.reduceLT, Int.reduceLE, Int.reduceEq, Int.reduceBNe, Int.reduceBEq, Int.reduceAdd, Int.reduceSub, Int.reduceMul, Int.reduceNeg, ↓reduceIte]

    refine ⟨Nat × Nat, fun x => [(2, .int .u64 v), (6, .int .u64 0), (7, .int .u64 0), (8, .int .u64 s), (9, .int .u64 (v / 4294967296 : Nat)), (10, .int .u64 (v % 4294967296 : Nat)), (11, .int .u64 un), (13, .int .u64 (W / 4294967296 : Nat)), (14, .int .u64 (W % 4294967296 : Nat)), (15, .int .u64 x.1), (16, .int .u64 x.2)], fun _ => [], fun x => Dig un (W / 4294967296) (v / 4294967296) (v % 4294967296) x.1 x.2, fun x => x.1, (un / (v / 4294967296), un % (v / 4294967296)), d1, ?_, ?_⟩
    · simp only [go_sem, Nat.reduceAdd, Nat.reduceSub, Nat.reduceMul, Nat.reducePow, Nat.reduceEqDiff, Nat.reduceLT, Nat.reduceLeDiff, Nat.reduceBEq, Nat.reduceBNe, Int.reduceToNat, Int.reduceLT, Int.reduceLE, Int.reduceEq, Int.reduceBNe, Int.reduceBEq, Int.reduceAdd, Int.reduceSub, Int.reduceMul, Int.reduceNeg, ↓reduceIte]
    · rintro ⟨q, r⟩ dg
      simp only at dg
      have hsm := dg.small
      have htp := dg.top
      have hsum := dg.sum
      have f1 : IntKind.wrap .u64 (4294967296 * (r : Int)) = ((4294967296 * r : Nat) : Int) := by rw [IntKind.wrap_u64]; omega
      have f2 : IntKind.wrap .u64 (((4294967296 * r : Nat) : Int) + ((W / 4294967296 : Nat) : Int)) = ((4294967296 * r + W / 4294967296 : Nat) : Int) := by rw [IntKind.wrap_u64]; omega
      have f4 : IntKind.wrap .u64 ((r : Int) + ((v / 4294967296 : Nat) : Int)) = ((r + v / 4294967296 : Nat) : Int) := by rw [IntKind.wrap_u64]; omega
      have step : (4294967296 ≤ q ∨ 4294967296 * r + W / 4294967296 < q * (v % 4294967296)) → IntKind.wrap .u64 ((q : Int) - 1) = ((q - 1 : Nat) : Int) := fun hx => by
        have := (dg.step huv' (by omega) hx).1
        rw [IntKind.wrap_u64]; omega
      simp only [mask32, shr32N, go_sem, Nat.reduceAdd, Nat.reduceSub, Nat.reduceMul, Nat.reducePow, Nat.reduceEqDiff, Nat.reduceLT, Nat.reduceLeDiff, Nat.reduceBEq, Nat.reduceBNe, Int.reduceToNat, Int.reduceLT, Int.reduceLE, Int.reduceEq, Int.reduceBNe, Int.reduceBEq, Int.reduceAdd, Int.reduceSub, Int.reduceMul, Int.reduceNeg, ↓reduceIte]
      refine GuardK.splitN (fun hq => ?_) (fun hq => ?_)
      · have hq' : q < 4294967296 := by simp at hq; omega
        have hb : q * (v % 4294967296) < 18446744073709551616 := by
          have := Nat.mul_le_mul (show q ≤ 4294967295 by omega) (show v % 4294967296 ≤ 4294967295 by omega)
          omega
        simp only [mask32, shr32N, go_sem, Nat.reduceAdd, Nat.reduceSub, Nat.reduceMul, Nat.reducePow, Nat.reduceEqDiff, Nat.reduceLT, Nat.reduceLeDiff, Nat.reduceBEq, Nat.reduceBNe, Int.reduceToNat, Int.reduceLT, Int.reduceLE, Int.reduceEq, Int.reduceBNe, Int.reduceBEq, Int.reduceAdd, Int.reduceSub, Int.reduceMul, Int.reduceNeg, ↓reduceIte, hq, f1, f2, Mul64.mulN, Mul64.wrapN _ hb]
        refine CondE.split (fun hc => ?_) (fun hc => ?_)
        · have hx : 4294967296 * r + W / 4294967296 < q * (v % 4294967296) := by rw [decide_eq_true_eq] at hc; exact_mod_cast hc
          obtain ⟨s1, s2, s3, s4⟩ := dg.step huv' (by omega) (.inr hx)
          simp only [go_sem, Nat.reduceAdd, Nat.reduceSub, Nat.reduceMul, Nat.reducePow, Nat.reduceEqDiff, Nat.reduceLT, Nat.reduceLeDiff, Nat.reduceBEq, Nat.reduceBNe, Int.reduceToNat, Int.reduceLT, Int.reduceLE, Int.reduceEq, Int.reduceBNe, Int.reduceBEq, Int.reduceAdd, Int.reduceSub, Int.reduceMul, Int.reduceNeg, ↓reduceIte, step (.inr hx), f4]
          refine CondE.split (fun hr => ?_) (fun hr => ?_)
          · simp only [go_sem, Nat.reduceAdd, Nat.reduceSub, Nat.reduceMul, Nat.reducePow, Nat.reduceEqDiff, Nat.reduceLT, Nat.reduceLeDiff, Nat.reduceBEq, Nat.reduceBNe, Int.reduceToNat, Int.reduceLT, Int.reduceLE, Int.reduceEq, Int.reduceBNe, Int.reduceBEq, Int.reduceAdd, Int.reduceSub, Int.reduceMul, Int.reduceNeg, ↓reduceIte]
            have hqt := Dig.brk s2 s3 s4 (by omega) vpos (by rw [decide_eq_true_eq] at hr; omega)
            rw [hvr, ← hq1] at hqt
            refine ⟨(), trivial, ?_⟩
            simp only [go_sem, Nat.reduceAdd, Nat.reduceSub, Nat.reduceMul, Nat.reducePow, Nat.reduceEqDiff, Nat.reduceLT, Nat.reduceLeDiff, Nat.reduceBEq, Nat.reduceBNe, Int.reduceToNat, Int.reduceLT, Int.reduceLE, Int.reduceEq, Int.reduceBNe, Int.reduceBEq, Int.reduceAdd, Int.reduceSub, Int.reduceMul, Int.reduceNeg, ↓reduceIte, hqt]
          · simp only [go_sem, Nat.reduceAdd, Nat.reduceSub, Nat.reduceMul, Nat.reducePow, Nat.reduceEqDiff, Nat.reduceLT, Nat.reduceLeDiff, Nat.reduceBEq, Nat.reduceBNe, Int.reduceToNat, Int.reduceLT, Int.reduceLE, Int.reduceEq, Int.reduceBNe, Int.reduceBEq, Int.reduceAdd, Int.reduceSub, Int.reduceMul, Int.reduceNeg, ↓reduceIte]
            refine ⟨(q - 1, r + v / 4294967296), ⟨s2, by rw [decide_eq_false_iff_not] at hr; omega, by omega, s4⟩, ?_, by simp only; omega⟩
            simp only [go_sem, Nat.reduceAdd, Nat.reduceSub, Nat.reduceMul, Nat.reducePow, Nat.reduceEqDiff, Nat.reduceLT, Nat.reduceLeDiff, Nat.reduceBEq, Nat.reduceBNe, Int.reduceToNat, Int.reduceLT, Int.reduceLE, Int.reduceEq, Int.reduceBNe, Int.reduceBEq, Int.reduceAdd, Int.reduceSub, Int.reduceMul, Int.reduceNeg, ↓reduceIte]
        · simp only [go_sem, Nat.reduceAdd, Nat.reduceSub, Nat.reduceMul, Nat.reducePow, Nat.reduceEqDiff, Nat.reduceLT, Nat.reduceLeDiff, Nat.reduceBEq, Nat.reduceBNe, Int.reduceToNat, Int.reduceLT, Int.reduceLE, Int.reduceEq, Int.reduceBNe, Int.reduceBEq, Int.reduceAdd, Int.reduceSub, Int.reduceMul, Int.reduceNeg, ↓reduceIte]
          have hqt := dg.stop vpos (by rw [decide_eq_false_iff_not] at hc; have hc' := Int.not_lt.1 hc; exact_mod_cast hc')
          rw [hvr, ← hq1] at hqt
          refine ⟨(), trivial, ?_⟩
          simp only [go_sem, Nat.reduceAdd, Nat.reduceSub, Nat.reduceMul, Nat.reducePow, Nat.reduceEqDiff, Nat.reduceLT, Nat.reduceLeDiff, Nat.reduceBEq, Nat.reduceBNe, Int.reduceToNat, Int.reduceLT, Int.reduceLE, Int.reduceEq, Int.reduceBNe, Int.reduceBEq, Int.reduceAdd, Int.reduceSub, Int.reduceMul, Int.reduceNeg, ↓reduceIte, hqt]
      · have hx : 4294967296 ≤ q := by simp at hq; omega
        obtain ⟨s1, s2, s3, s4⟩ := dg.step huv' (by omega) (.inl hx)
        simp only [mask32, shr32N, go_sem, Nat.reduceAdd, Nat.reduceSub, Nat.reduceMul, Nat.reducePow, Nat.reduceEqDiff, Nat.reduceLT, Nat.reduceLeDiff, Nat.reduceBEq, Nat.reduceBNe, Int.reduceToNat, Int.reduceLT, Int.reduceLE, Int.reduceEq, Int.reduceBNe, Int.reduceBEq, Int.reduceAdd, Int.reduceSub, Int.reduceMul, Int.reduceNeg, ↓reduceIte, hq, step (.inl hx), f4]
        refine CondE.split (fun hr => ?_) (fun hr => ?_)
        · simp only [go_sem, Nat.reduceAdd, Nat.reduceSub, Nat.reduceMul, Nat.reducePow, Nat.reduceEqDiff, Nat.reduceLT, Nat.reduceLeDiff, Nat.reduceBEq, Nat.reduceBNe, Int.reduceToNat, Int.reduceLT, Int.reduceLE, Int.reduceEq, Int.reduceBNe, Int.reduceBEq, Int.reduceAdd, Int.reduceSub, Int.reduceMul, Int.reduceNeg, ↓reduceIte]
          have hqt := Dig.brk s2 s3 s4 (by omega) vpos (by rw [decide_eq_true_eq] at hr; omega)
          rw [hvr, ← hq1] at hqt
          refine ⟨(), trivial, ?_⟩
          simp only [go_sem, Nat.reduceAdd, Nat.reduceSub, Nat.reduceMul, Nat.reducePow, Nat.reduceEqDiff, Nat.reduceLT, Nat.reduceLeDiff, Nat.reduceBEq, Nat.reduceBNe, Int.reduceToNat, Int.reduceLT, Int.reduceLE, Int.reduceEq, Int.reduceBNe, Int.reduceBEq, Int.reduceAdd, Int.reduceSub, Int.reduceMul, Int.reduceNeg, ↓reduceIte, hqt]
        · simp only [go_sem, Nat.reduceAdd, Nat.reduceSub, Nat.reduceMul, Nat.reducePow, Nat.reduceEqDiff, Nat.reduceLT, Nat.reduceLeDiff, Nat.reduceBEq, Nat.reduceBNe, Int.reduceToNat, Int.reduceLT, Int.reduceLE, Int.reduceEq, Int.reduceBNe, Int.reduceBEq, Int.reduceAdd, Int.reduceSub, Int.reduceMul, Int.reduceNeg, ↓reduceIte]
          refine ⟨(q - 1, r + v / 4294967296), ⟨s2, by rw [decide_eq_false_iff_not] at hr; omega, by omega, s4⟩, ?_, by simp only; omega⟩
          simp only [go_sem, Nat.reduceAdd, Nat.reduceSub, Nat.reduceMul, Nat.reducePow, Nat.reduceEqDiff, Nat.reduceLT, Nat.reduceLeDiff, Nat.reduceBEq, Nat.reduceBNe, Int.reduceToNat, Int.reduceLT, Int.reduceLE, Int.reduceEq, Int.reduceBNe, Int.reduceBEq, Int.reduceAdd, Int.reduceSub, Int.reduceMul, Int.reduceNeg, ↓reduceIte]

end Go.Proofs.Ytbllopdcbkeadaa
