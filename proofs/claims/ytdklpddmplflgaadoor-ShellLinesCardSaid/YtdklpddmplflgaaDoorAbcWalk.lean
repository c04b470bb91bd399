/- A loop over a list, with what it carries along; no theorem of a claim. -/
import Derived.Test.YtdklpddmplflgaaDoorAbcHard3
import Derived.Test.YtdklpddmplflgaaDoorAbcLoop
set_option linter.unusedSimpArgs false
set_option linter.unusedVariables false
namespace Go.Abs
def walkI {S : Type} (n : Nat) (I : Nat → S → Prop) (x : Nat × S) : Prop := x.1 ≤ n ∧ I x.1 x.2
def walkM {S : Type} (n : Nat) (x : Nat × S) : Nat := n - x.1
/-- n rounds; s is what is carried along -/
theorem LoopK.walk {body : (Exit → Env → Prop) → Env → Prop} {Q : Exit → Env → Prop} {e : Env} {S : Type} (n : Nat) (kt ko : List Nat) (ts os : Nat → S → EL) (I : Nat → S → Prop) (s0 : S) {kT kO : EL}
    (h0 : I 0 s0) (hle : LeL e (ts 0 s0 ++ kT) (os 0 s0 ++ kO))
    (hr : ∀ i s, i < n → decide ((i : Int) < (n : Int)) = true → IntKind.wrap .i64 ((i : Int) + 1) = ((i + 1 : Nat) : Int) → I i s → body (roundE (fun x : Nat × S => ts x.1 x.2 ++ kT) (fun x : Nat × S => os x.1 x.2 ++ kO) (walkI n I) (walkM n) (i, s) Q) (mkE (ts i s ++ kT) (os i s ++ kO)))
    (hx : ∀ s, decide ((n : Int) < (n : Int)) = false → I n s → body (roundE (fun x : Nat × S => ts x.1 x.2 ++ kT) (fun x : Nat × S => os x.1 x.2 ++ kO) (walkI n I) (walkM n) (n, s) Q) (mkE (ts n s ++ kT) (os n s ++ kO))) (hn : n < 9223372036854775807 := by omega)
    (hT : keepL e.t kt = kT := by simp only [go_sem, seval] <;> exact rfl) (hO : keepO e.o ko = kO := by simp only [go_sem, seval] <;> exact rfl) : LoopK body Q e := by
  refine ⟨Nat × S, fun x => ts x.1 x.2 ++ kT, fun x => os x.1 x.2 ++ kO, walkI n I, walkM n, (0, s0), ⟨Nat.zero_le _, h0⟩, hle, ?_⟩
  rintro ⟨i, s⟩ ⟨hi, hI⟩
  rcases Nat.lt_or_ge i n with h | h
  · exact hr i s h (decide_eq_true (by omega)) (by rw [IntKind.wrap_i64]; omega) hI
  · have hi : i ≤ n := hi
    obtain rfl : i = n := by omega
    exact hx s (decide_eq_false (by omega)) hI
/-- the end of a round -/
theorem RoundK.step {S : Type} {n i : Nat} {s : S} {ts os : Nat × S → EL} {I : Nat → S → Prop} {e : Env} (s' : S) (hi : i < n) (h : I (i + 1) s') (hl : LeL e (ts (i + 1, s')) (os (i + 1, s'))) : RoundK ts os (walkI n I) (walkM n) (i, s) e :=
  ⟨(i + 1, s'), ⟨hi, h⟩, hl, by show n - (i + 1) < n - i; omega⟩
theorem drop_at {A : Type} {xs : List A} {i : Nat} (h : i < xs.length) : xs.drop i = xs[i] :: xs.drop (i + 1) := List.drop_eq_getElem_cons h
theorem kill_leaf {r : Nat} {d : D} (h : leafB d = true) : d.kill r = d := by
  cases d <;> first | (cases h; done) | rfl
theorem killL_leaf {r : Nat} {X : List D} (h : ∀ d ∈ X, leafB d = true) : D.killL r X = X := by
  rw [killL_map]
  exact (List.map_congr_left fun d hd => kill_leaf (h d hd)).trans (List.map_id' _)
end Go.Abs
