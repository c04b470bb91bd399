/- Names and what is read as one; no theorem of a claim. -/
import Derived.Test.YthgplioeefjbfaaDoorA6
set_option linter.unusedSimpArgs false
set_option linter.unusedVariables false
namespace Go.Proofs.YthgplioeefjbfaaDoor
open Go.Abs
theorem right_nat {x : AcctV} (h : x.right = true) : ∃ K W C : Nat, x = ⟨K, W, C⟩ ∧ 1 ≤ K ∧ K ≤ 6 ∧ W ≤ 16 ∧ C < 3 := by
  obtain ⟨k, w, c⟩ := x
  unfold AcctV.right at h
  split at h
  · cases h
  · rename_i h1
    simp only at h1 h
    have : 0 ≤ w ∧ w ≤ 16 := by
      split at h
      · simp at h; omega
      · simp at h; omega
    refine ⟨k.toNat, w.toNat, c.toNat, ?_, by omega, by omega, by omega, by omega⟩
    simp only [AcctV.mk.injEq]; omega
def nameV (x : AcctV) : ByteArray := nameB x.kind.toNat x.who.toNat x.cur.toNat
theorem nameFull_spec (x : AcctV) : Abs.Spec Tryd.prog 15 [] [.agg x.cells] [] (.tup [.str (if x.right then nameV x else ⟨#[]⟩), .int .i64 (if x.right then 0 else 3)]) := by
  cases hr : x.right
  · have h := right_spec x
    simp only [AcctV.cells] at h
    refine Abs.Spec.go (n := 28) (np := 1) (rs := [.tmp 2, .tmp 3]) mixed Tryd.func15 rfl rfl rfl rfl rfl (by simp) (by simp) ?_
    simp only [AcctV.cells]
    simp only [go_sem, Nat.reduceAdd, Nat.reduceSub, Nat.reduceMul, Nat.reducePow, Nat.reduceEqDiff, Nat.reduceLT, Nat.reduceLeDiff, Nat.reduceBEq, Nat.reduceBNe, Int.reduceToNat, Int.reduceLT, Int.reduceLE, Int.reduceEq, Int.reduceBNe, Int.reduceBEq, Int.reduceAdd, Int.reduceSub, Int.reduceMul, Int.reduceNeg, ↓reduceIte]
    repeat' (with_reducible first
        | refine And.intro ?_ ?_
        | exact DrawN.mk (by kernel_rfl)
        | exact OkN.mk (by kernel_rfl)
        | refine CallN.pure (by assumption) ?_
        | refine CallN.pure (h) ?_
        | refine GuardK.splitDN (fun h => ?_) (fun h => ?_)
        | refine GuardK.splitD (fun h => ?_) (fun h => ?_)
        | refine CondE.splitDN (fun h => ?_) (fun h => ?_)
        | refine CondE.splitD (fun h => ?_) (fun h => ?_)
        | refine GuardK.splitN (fun h => ?_) (fun h => ?_)
        | refine GuardK.split (fun h => ?_) (fun h => ?_)
        | refine CondE.splitN (fun h => ?_) (fun h => ?_)
        | refine CondE.split (fun h => ?_) (fun h => ?_)
        | refine WeakK.id ?_
        | refine RoundK.next (by omega) ?_ ?_
        | exact trivial
        | simp only [*, go_sem, Nat.reduceAdd, Nat.reduceSub, Nat.reduceMul, Nat.reducePow, Nat.reduceEqDiff, Nat.reduceLT, Nat.reduceLeDiff, Nat.reduceBEq, Nat.reduceBNe, Int.reduceToNat, Int.reduceLT, Int.reduceLE, Int.reduceEq, Int.reduceBNe, Int.reduceBEq, Int.reduceAdd, Int.reduceSub, Int.reduceMul, Int.reduceNeg, ↓reduceIte])
  · obtain ⟨K, W, C, rfl, h1, h2, h3, h4⟩ := right_nat hr
    have := name_spec joinIs ⟨K, W, C⟩ hr K W C rfl rfl rfl (by omega) (by omega) (by omega)
    simpa [nameV] using this
theorem ba_append (a b : ByteArray) : (a ++ b).data.toList = a.data.toList ++ b.data.toList := by
  simp [ByteArray.data_append]
theorem join3 (a b c sep : ByteArray) : joinB [a, b, c] sep = a ++ sep ++ b ++ sep ++ c := by
  symm
  refine ba_ext ?_
  simp only [ba_append]
  simp [List.intercalate, List.intersperse]
theorem join2 (a b sep : ByteArray) : joinB [a, b] sep = a ++ sep ++ b := by
  symm
  refine ba_ext ?_
  simp only [ba_append]
  simp [List.intercalate, List.intersperse]
theorem dec2_len (i : Nat) : (dec2 i).length ≤ 2 := by unfold dec2; split <;> simp
theorem refName_spec (x : AcctV) (hr : x.right = true) : Abs.Spec Tryd.prog 21 [] [.agg x.cells] [] (.str (nameV x)) := by
  obtain ⟨K, W, C, rfl, h1, h2, h3, h4⟩ := right_nat hr
  have iW := itoa_spec W (by omega)
  have iC := itoa_spec C (by omega)
  have hn : nameV ⟨K, W, C⟩ = nameB K W C := by simp [nameV]
  rw [hn]
  clear hr hn
  refine Abs.Spec.go (n := 29) (np := 1) (rs := [.tmp 2]) mixed Tryd.func21 rfl rfl rfl rfl rfl (by simp) (by simp) ?_
  simp only [AcctV.cells]
  simp only [go_sem, Nat.reduceAdd, Nat.reduceSub, Nat.reduceMul, Nat.reducePow, Nat.reduceEqDiff, Nat.reduceLT, Nat.reduceLeDiff, Nat.reduceBEq, Nat.reduceBNe, Int.reduceToNat, Int.reduceLT, Int.reduceLE, Int.reduceEq, Int.reduceBNe, Int.reduceBEq, Int.reduceAdd, Int.reduceSub, Int.reduceMul, Int.reduceNeg, ↓reduceIte]
  have : K = 1 ∨ K = 2 ∨ K = 3 ∨ K = 4 ∨ K = 5 ∨ K = 6 := by omega
  rcases this with rfl | rfl | rfl | rfl | rfl | rfl
  all_goals (simp only [go_sem, Nat.reduceAdd, Nat.reduceSub, Nat.reduceMul, Nat.reducePow, Nat.reduceEqDiff, Nat.reduceLT, Nat.reduceLeDiff, Nat.reduceBEq, Nat.reduceBNe, Int.reduceToNat, Int.reduceLT, Int.reduceLE, Int.reduceEq, Int.reduceBNe, Int.reduceBEq, Int.reduceAdd, Int.reduceSub, Int.reduceMul, Int.reduceNeg, ↓reduceIte])
  repeat' (with_reducible first
      | refine And.intro ?_ ?_
      | exact DrawN.mk (by kernel_rfl)
      | exact OkN.mk (by kernel_rfl)
      | refine CallN.pure (by assumption) ?_
      | refine CallN.pure (iW) ?_
      | refine CallN.pure (iC) ?_
      | refine GuardK.splitDN (fun h => ?_) (fun h => ?_)
      | refine GuardK.splitD (fun h => ?_) (fun h => ?_)
      | refine CondE.splitDN (fun h => ?_) (fun h => ?_)
      | refine CondE.splitD (fun h => ?_) (fun h => ?_)
      | refine GuardK.splitN (fun h => ?_) (fun h => ?_)
      | refine GuardK.split (fun h => ?_) (fun h => ?_)
      | refine CondE.splitN (fun h => ?_) (fun h => ?_)
      | refine CondE.split (fun h => ?_) (fun h => ?_)
      | refine WeakK.id ?_
      | refine RoundK.next (by omega) ?_ ?_
      | exact trivial
      | simp only [*, go_sem, Nat.reduceAdd, Nat.reduceSub, Nat.reduceMul, Nat.reducePow, Nat.reduceEqDiff, Nat.reduceLT, Nat.reduceLeDiff, Nat.reduceBEq, Nat.reduceBNe, Int.reduceToNat, Int.reduceLT, Int.reduceLE, Int.reduceEq, Int.reduceBNe, Int.reduceBEq, Int.reduceAdd, Int.reduceSub, Int.reduceMul, Int.reduceNeg, ↓reduceIte])
  all_goals first
    | (have l1 := dec2_len W; have l2 := dec2_len C; simp; omega)
    | simp [nameB, owned, join2, join3, wordB, dB]
def allA : List AcctV := allL [1, 2, 3, 4, 5, 6]
theorem acctsW_right {k w : Int} : ∀ {n : Nat} {x : AcctV}, x ∈ acctsW k w n ↔ x.right = true ∧ x.kind = k ∧ x.who = w ∧ 0 ≤ x.cur ∧ x.cur < n
  | 0, x => by simp [acctsW] <;> (intros; omega)
  | n + 1, x => by
    simp only [acctsW, List.mem_append, acctsW_right (n := n)]
    constructor
    · rintro (h | h)
      · refine ⟨h.1, h.2.1, h.2.2.1, h.2.2.2.1, by omega⟩
      · split at h
        · rename_i hr
          simp at h; subst h; exact ⟨hr, rfl, rfl, by simp, by simp; omega⟩
        · simp at h
    · rintro ⟨h1, h2, h3, h4, h5⟩
      by_cases hn : x.cur < n
      · exact .inl ⟨h1, h2, h3, h4, hn⟩
      · right
        have hx : x = ⟨k, w, n⟩ := by
          obtain ⟨a, b, c⟩ := x
          simp only at h2 h3 h4 h5 hn
          simp only [AcctV.mk.injEq]; omega
        rw [← hx, h1]; simp
theorem acctsK_right {k : Int} : ∀ {n : Nat} {x : AcctV}, x ∈ acctsK k n ↔ x.right = true ∧ x.kind = k ∧ 0 ≤ x.who ∧ x.who < n ∧ 0 ≤ x.cur ∧ x.cur < 3
  | 0, x => by simp [acctsK] <;> (intros; omega)
  | n + 1, x => by
    simp only [acctsK, List.mem_append, acctsK_right (n := n), acctsW_right]
    constructor
    · rintro (h | h)
      · exact ⟨h.1, h.2.1, h.2.2.1, by omega, h.2.2.2.2⟩
      · exact ⟨h.1, h.2.1, by omega, by omega, h.2.2.2.1, by omega⟩
    · rintro ⟨h1, h2, h3, h4, h5, h6⟩
      by_cases hn : x.who < n
      · exact .inl ⟨h1, h2, h3, hn, h5, h6⟩
      · exact .inr ⟨h1, h2, by omega, h5, by omega⟩
theorem allTo_right {ks : List Int} : ∀ {n : Nat} {x : AcctV}, x ∈ allTo ks n ↔ x.right = true ∧ asked ks x.kind = true ∧ 1 ≤ x.kind ∧ x.kind ≤ n ∧ 0 ≤ x.who ∧ x.who < 17 ∧ 0 ≤ x.cur ∧ x.cur < 3
  | 0, x => by simp [allTo] <;> (intros; omega)
  | n + 1, x => by
    simp only [allTo, List.mem_append, allTo_right (n := n)]
    constructor
    · rintro (h | h)
      · exact ⟨h.1, h.2.1, h.2.2.1, by omega, h.2.2.2.2⟩
      · split at h
        · rename_i hk
          rw [acctsK_right] at h
          refine ⟨h.1, by rw [h.2.1]; exact hk, by omega, by omega, h.2.2⟩
        · simp at h
    · rintro ⟨h1, h2, h3, h4, h5⟩
      by_cases hn : x.kind ≤ n
      · exact .inl ⟨h1, h2, h3, hn, h5⟩
      · right
        have hk : x.kind = n + 1 := by omega
        rw [hk] at h2
        rw [if_pos h2, acctsK_right]
        exact ⟨h1, hk, h5⟩
theorem mem_allL {ks : List Int} {x : AcctV} : x ∈ allL ks ↔ x.right = true ∧ asked ks x.kind = true := by
  rw [allL, allTo_right]
  constructor
  · rintro ⟨h1, h2, _⟩; exact ⟨h1, h2⟩
  · rintro ⟨h1, h2⟩
    obtain ⟨K, W, C, rfl, g1, g2, g3, g4⟩ := right_nat h1
    refine ⟨h1, h2, ?_⟩
    simp only; omega
theorem mem_allA {x : AcctV} : x ∈ allA ↔ x.right = true := by
  rw [allA, mem_allL]
  constructor
  · exact fun h => h.1
  · intro h
    refine ⟨h, ?_⟩
    obtain ⟨K, W, C, rfl, g1, g2, g3, g4⟩ := right_nat h
    simp [asked]; omega
theorem acctsW_sorted {k w : Int} : ∀ n : Nat, (acctsW k w n).Pairwise AcctV.lt
  | 0 => by simp [acctsW]
  | n + 1 => by
    simp only [acctsW, List.pairwise_append]
    refine ⟨acctsW_sorted n, by split <;> simp, ?_⟩
    intro a ha b hb
    split at hb
    · simp at hb; subst hb
      rw [acctsW_right] at ha
      simp only [AcctV.lt]; omega
    · simp at hb
theorem acctsK_sorted {k : Int} : ∀ n : Nat, (acctsK k n).Pairwise AcctV.lt
  | 0 => by simp [acctsK]
  | n + 1 => by
    simp only [acctsK, List.pairwise_append]
    refine ⟨acctsK_sorted n, acctsW_sorted 3, ?_⟩
    intro a ha b hb
    rw [acctsK_right] at ha
    rw [acctsW_right] at hb
    simp only [AcctV.lt]; omega
theorem allTo_sorted {ks : List Int} : ∀ n : Nat, (allTo ks n).Pairwise AcctV.lt
  | 0 => by simp [allTo]
  | n + 1 => by
    simp only [allTo, List.pairwise_append]
    refine ⟨allTo_sorted n, by split; exact acctsK_sorted 17; simp, ?_⟩
    intro a ha b hb
    split at hb
    · rw [allTo_right] at ha
      rw [acctsK_right] at hb
      simp only [AcctV.lt]; omega
    · simp at hb
theorem allL_sorted (ks : List Int) : (allL ks).Pairwise AcctV.lt := allTo_sorted 6
theorem allA_len : allA.length = 108 := by kernel_rfl
def namesA : List (List UInt8) := allA.map fun a => (nameV a).data.toList
def nodupB : List (List UInt8) → Bool
  | [] => true
  | a :: l => l.all (fun b => a != b) && nodupB l
theorem names_nodupB : nodupB namesA = true := by kernel_rfl
theorem nodupB_pair : ∀ {l : List (List UInt8)}, nodupB l = true → l.Pairwise (· ≠ ·)
  | [], _ => .nil
  | a :: l, h => by
    simp only [nodupB, Bool.and_eq_true, List.all_eq_true, bne_iff_ne] at h
    exact .cons (fun b hb => h.1 b hb) (nodupB_pair h.2)
theorem names_pair : allA.Pairwise fun a b => nameV a ≠ nameV b := by
  have h := nodupB_pair names_nodupB
  rw [namesA, List.pairwise_map] at h
  exact h.imp fun h e => h (by rw [e])
theorem name_inj {a b : AcctV} (ha : a ∈ allA) (hb : b ∈ allA) (h : nameV a = nameV b) : a = b := by
  obtain ⟨i, hi, rfl⟩ := List.getElem_of_mem ha
  obtain ⟨j, hj, rfl⟩ := List.getElem_of_mem hb
  have hp := List.pairwise_iff_getElem.1 names_pair
  rcases Nat.lt_trichotomy i j with h1 | h1 | h1
  · exact (hp i j hi hj h1 h).elim
  · subst h1; rfl
  · exact (hp j i hj hi h1 h.symm).elim
/-- the account of a text -/
def readA (s : ByteArray) : Option AcctV := allA.find? fun a => decide (nameV a = s)
theorem readA_name {a : AcctV} (h : a.right = true) : readA (nameV a) = some a := by
  cases e : readA (nameV a) with
  | none =>
    have := List.find?_eq_none.1 e a (mem_allA.2 h)
    simp at this
  | some b =>
    have h1 := List.find?_some e
    have h2 := List.mem_of_find?_eq_some e
    rw [name_inj h2 (mem_allA.2 h) (by simpa using h1)]
theorem readA_some {s : ByteArray} {a : AcctV} (h : readA s = some a) : a.right = true ∧ nameV a = s :=
  ⟨mem_allA.1 (List.mem_of_find?_eq_some h), by simpa using List.find?_some h⟩
end Go.Proofs.YthgplioeefjbfaaDoor
