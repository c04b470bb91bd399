/- A loop in which most slots stay as they are; no theorem of a claim. -/
import Derived.Test.YtdklpddmplflgaaDoorAbcEval2
set_option linter.unusedSimpArgs false
set_option linter.unusedVariables false
namespace Go.Abs
attribute [go_sem] or_self or_true true_or List.length_map Int.cast_ofNat_Int
theorem ba_inj {a b : ByteArray} (h : a.toList = b.toList) : a = b := by
  rw [ByteArray.toList_eq, ByteArray.toList_eq] at h
  obtain ⟨⟨a⟩⟩ := a
  obtain ⟨⟨b⟩⟩ := b
  simpa using h
@[go_sem] theorem toList_beq (a b : ByteArray) : (a.toList == b.toList) = decide (a = b) := by
  by_cases h : a = b
  · subst h; simp
  · rw [decide_eq_false h]
    cases hx : a.toList == b.toList with
    | false => rfl
    | true => exact (h (ba_inj (by simpa using hx))).elim
attribute [go_sem] eq_self bne_self_eq_false List.getD_cons_zero List.getD_cons_succ
def keepL (f : Nat → D) : List Nat → EL
  | [] => []
  | i :: l => (i, f i) :: keepL f l
@[go_sem] theorem keepL_nil (f : Nat → D) : keepL f [] = [] := rfl
@[go_sem] theorem keepL_cons (f : Nat → D) (i : Nat) (l : List Nat) : keepL f (i :: l) = (i, f i) :: keepL f l := rfl
def keepO (f : Nat → D) : List Nat → EL
  | [] => []
  | i :: l => osI (isUndef (f i)) i (f i) [] ++ keepO f l
@[go_sem] theorem keepO_nil (f : Nat → D) : keepO f [] = [] := rfl
@[go_sem] theorem keepO_cons (f : Nat → D) (i : Nat) (l : List Nat) : keepO f (i :: l) = osI (isUndef (f i)) i (f i) [] ++ keepO f l := rfl
/-- a loop: the slots kt and the objects ko stay; ts, os tell the others that live on -/
theorem LoopK.over {body : (Exit → Env → Prop) → Env → Prop} {Q : Exit → Env → Prop} {e : Env} {T : Type} (kt ko : List Nat) (ts os : T → EL) (I : T → Prop) (m : T → Nat) (s0 : T) {kT kO : EL}
    (h0 : I s0) (hle : LeL e (ts s0 ++ kT) (os s0 ++ kO))
    (hr : ∀ s, I s → body (roundE (fun s => ts s ++ kT) (fun s => os s ++ kO) I m s Q) (mkE (ts s ++ kT) (os s ++ kO)))
    (hT : keepL e.t kt = kT := by simp only [go_sem, seval] <;> exact rfl) (hO : keepO e.o ko = kO := by simp only [go_sem, seval] <;> exact rfl) : LoopK body Q e :=
  ⟨T, fun s => ts s ++ kT, fun s => os s ++ kO, I, m, s0, h0, hle, hr⟩
def cntI (n : Nat) (I : Nat → Prop) (i : Nat) : Prop := i ≤ n ∧ I i
def cntM (n : Nat) (i : Nat) : Nat := n - i
/-- a counted loop over what is left of n -/
theorem LoopK.count {body : (Exit → Env → Prop) → Env → Prop} {Q : Exit → Env → Prop} {e : Env} (n : Nat) (kt ko : List Nat) (ts os : Nat → EL) (I : Nat → Prop) {kT kO : EL}
    (h0 : I 0) (hle : LeL e (ts 0 ++ kT) (os 0 ++ kO))
    (hr : ∀ i, i ≤ n → I i → body (roundE (fun s => ts s ++ kT) (fun s => os s ++ kO) (cntI n I) (cntM n) i Q) (mkE (ts i ++ kT) (os i ++ kO)))
    (hT : keepL e.t kt = kT := by simp only [go_sem, seval] <;> exact rfl) (hO : keepO e.o ko = kO := by simp only [go_sem, seval] <;> exact rfl) : LoopK body Q e :=
  ⟨Nat, fun s => ts s ++ kT, fun s => os s ++ kO, cntI n I, cntM n, 0, ⟨Nat.zero_le _, h0⟩, hle, fun i hi => hr i hi.1 hi.2⟩
/-- the end of a round of a counted loop -/
theorem RoundK.next {n i : Nat} {ts os : Nat → EL} {I : Nat → Prop} {e : Env} (hi : i < n) (h : I (i + 1)) (hl : LeL e (ts (i + 1)) (os (i + 1))) : RoundK ts os (cntI n I) (cntM n) i e :=
  ⟨i + 1, ⟨hi, h⟩, hl, by show n - (i + 1) < n - i; omega⟩
section
variable {P : Program} {n np : Nat} {e : Env} {a b : Code} {Q : Exit → Env → Prop} {p : Prop} [Decidable p] {k : Bool → Prop}
theorem CondE.splitD (h1 : p → wpC P n np a Q e) (h2 : ¬ p → wpC P n np b Q e) : CondE P n np a b Q e (.bool (decide p)) := ⟨fun h => h1 (of_decide_eq_true h), fun h => h2 (of_decide_eq_false h)⟩
theorem CondE.splitDN (h1 : ¬ p → wpC P n np a Q e) (h2 : p → wpC P n np b Q e) : CondE P n np a b Q e (.bool (!decide p)) := CondE.splitN (fun h => h1 (of_decide_eq_false h)) (fun h => h2 (of_decide_eq_true h))
theorem GuardK.splitD (h1 : p → k true) (h2 : ¬ p → k false) : GuardK (some (decide p)) k := GuardK.split (fun h => h1 (of_decide_eq_true h)) (fun h => h2 (of_decide_eq_false h))
theorem GuardK.splitDN (h1 : ¬ p → k true) (h2 : p → k false) : GuardK (some (!decide p)) k := GuardK.splitN (fun h => h1 (of_decide_eq_false h)) (fun h => h2 (of_decide_eq_true h))
end
end Go.Abs
