/- The places of a command's fields; no theorem of a claim. -/
import Derived.Test.YtdklpddmplflgaaDoorV3
import Derived.Test.YtdklpddmplflgaaDoorAbcPtr
set_option linter.unusedSimpArgs false
set_option linter.unusedVariables false
namespace Go.Proofs.YtdklpddmplflgaaDoor
open Go.Abs
def isAdr : D → Bool
  | .addr _ _ => true
  | _ => false
theorem fillA (n : Nat) (e : Env) : ∀ parts : List (Nat × Operand), (parts.all fun p => decide (p.1 < n) && isAdr (rd e p.2)) = true → fillOk (n * 1) (bsParts e 1 parts)
  | [], _ => trivial
  | (i, x) :: r, h => by
    simp only [List.all_cons, Bool.and_eq_true, decide_eq_true_eq] at h
    obtain ⟨⟨h1, h2⟩, h3⟩ := h
    show fillOk (n * 1) ((i * 1, 1, rd e x) :: bsParts e 1 r)
    obtain ⟨a, b, hx⟩ : ∃ a b, rd e x = .addr a b := by
      cases hx : rd e x <;> rw [hx] at h2 <;> first | exact ⟨_, _, rfl⟩ | cases h2
    rw [hx]
    exact ⟨rfl, by omega, by intro c hc; rw [show (D.addr a b).cells = [.addr a b] from rfl] at hc; rw [List.mem_singleton.1 hc]; trivial, fillA n e r h3⟩
/-- addresses in a command -/
def adr (os : List Nat) : List D := os.map fun o => .addr 0 o
set_option maxRecDepth 8000 in
theorem fields0 (a0 a1 a3 a4 a5 a6 a7 a8 a9 a10 a11 a12 a13 a14 a15 a16 : Int) : Abs.Spec Tryd.prog 20 [.box (ci [a0, a1, 1, a3, a4, a5, a6, a7, a8, a9, a10, a11, a12, a13, a14, a15, a16])] [.addr 0 0] [.box (ci [a0, a1, 1, a3, a4, a5, a6, a7, a8, a9, a10, a11, a12, a13, a14, a15, a16]), .box [.addr 0 3, .addr 0 10]] (.bsub 1 0 1 2 2) := by
  simp only [ci, List.map_cons, List.map_nil]
  refine sgo 193 1 [.tmp 2] mixed Tryd.func20 ?_
  simp -implicitDefEqProofs only [go_sem, seval]
  (with_reducible and_intros)<;>first|exact .dq|omega|skip
  with_reducible refine SemK.buildPtr (zc := [.nilp]) (cs := [.addr 0 3, .addr 0 10]) ty50 (by simp -implicitDefEqProofs only [go_sem, seval]) ?_ ?_ (by decide) ?_ (by decide) ?_ ?_
  · rfl
  · rfl
  · exact fillA _ _ _ rfl
  · rfl
  simp -implicitDefEqProofs only [go_sem, seval]
set_option maxRecDepth 8000 in
theorem fields2 (a0 a1 a3 a4 a5 a6 a7 a8 a9 a10 a11 a12 a13 a14 a15 a16 : Int) : Abs.Spec Tryd.prog 20 [.box (ci [a0, a1, 3, a3, a4, a5, a6, a7, a8, a9, a10, a11, a12, a13, a14, a15, a16])] [.addr 0 0] [.box (ci [a0, a1, 3, a3, a4, a5, a6, a7, a8, a9, a10, a11, a12, a13, a14, a15, a16]), .box [.addr 0 5, .addr 0 7, .addr 0 9, .addr 0 10]] (.bsub 1 0 1 4 4) := by
  simp only [ci, List.map_cons, List.map_nil]
  refine sgo 193 1 [.tmp 2] mixed Tryd.func20 ?_
  simp -implicitDefEqProofs only [go_sem, seval]
  (with_reducible and_intros)<;>first|exact .dq|omega|skip
  with_reducible refine SemK.buildPtr (zc := [.nilp]) (cs := [.addr 0 5, .addr 0 7, .addr 0 9, .addr 0 10]) ty50 (by simp -implicitDefEqProofs only [go_sem, seval]) ?_ ?_ (by decide) ?_ (by decide) ?_ ?_
  · rfl
  · rfl
  · exact fillA _ _ _ rfl
  · rfl
  simp -implicitDefEqProofs only [go_sem, seval]
set_option maxRecDepth 8000 in
theorem fields3 (a0 a1 a3 a4 a5 a6 a7 a8 a9 a10 a11 a12 a13 a14 a15 a16 : Int) : Abs.Spec Tryd.prog 20 [.box (ci [a0, a1, 4, a3, a4, a5, a6, a7, a8, a9, a10, a11, a12, a13, a14, a15, a16])] [.addr 0 0] [.box (ci [a0, a1, 4, a3, a4, a5, a6, a7, a8, a9, a10, a11, a12, a13, a14, a15, a16]), .box [.addr 0 3, .addr 0 7, .addr 0 10]] (.bsub 1 0 1 3 3) := by
  simp only [ci, List.map_cons, List.map_nil]
  refine sgo 193 1 [.tmp 2] mixed Tryd.func20 ?_
  simp -implicitDefEqProofs only [go_sem, seval]
  (with_reducible and_intros)<;>first|exact .dq|omega|skip
  with_reducible refine SemK.buildPtr (zc := [.nilp]) (cs := [.addr 0 3, .addr 0 7, .addr 0 10]) ty50 (by simp -implicitDefEqProofs only [go_sem, seval]) ?_ ?_ (by decide) ?_ (by decide) ?_ ?_
  · rfl
  · rfl
  · exact fillA _ _ _ rfl
  · rfl
  simp -implicitDefEqProofs only [go_sem, seval]
set_option maxRecDepth 8000 in
theorem fields4 (a0 a1 a3 a4 a5 a6 a7 a8 a9 a10 a11 a12 a13 a14 a15 a16 : Int) : Abs.Spec Tryd.prog 20 [.box (ci [a0, a1, 5, a3, a4, a5, a6, a7, a8, a9, a10, a11, a12, a13, a14, a15, a16])] [.addr 0 0] [.box (ci [a0, a1, 5, a3, a4, a5, a6, a7, a8, a9, a10, a11, a12, a13, a14, a15, a16]), .box [.addr 0 3, .addr 0 7, .addr 0 10]] (.bsub 1 0 1 3 3) := by
  simp only [ci, List.map_cons, List.map_nil]
  refine sgo 193 1 [.tmp 2] mixed Tryd.func20 ?_
  simp -implicitDefEqProofs only [go_sem, seval]
  (with_reducible and_intros)<;>first|exact .dq|omega|skip
  with_reducible refine SemK.buildPtr (zc := [.nilp]) (cs := [.addr 0 3, .addr 0 7, .addr 0 10]) ty50 (by simp -implicitDefEqProofs only [go_sem, seval]) ?_ ?_ (by decide) ?_ (by decide) ?_ ?_
  · rfl
  · rfl
  · exact fillA _ _ _ rfl
  · rfl
  simp -implicitDefEqProofs only [go_sem, seval]
set_option maxRecDepth 8000 in
theorem fields5 (a0 a1 a3 a4 a5 a6 a7 a8 a9 a10 a11 a12 a13 a14 a15 a16 : Int) : Abs.Spec Tryd.prog 20 [.box (ci [a0, a1, 6, a3, a4, a5, a6, a7, a8, a9, a10, a11, a12, a13, a14, a15, a16])] [.addr 0 0] [.box (ci [a0, a1, 6, a3, a4, a5, a6, a7, a8, a9, a10, a11, a12, a13, a14, a15, a16]), .box [.addr 0 3, .addr 0 5, .addr 0 8]] (.bsub 1 0 1 3 3) := by
  simp only [ci, List.map_cons, List.map_nil]
  refine sgo 193 1 [.tmp 2] mixed Tryd.func20 ?_
  simp -implicitDefEqProofs only [go_sem, seval]
  (with_reducible and_intros)<;>first|exact .dq|omega|skip
  with_reducible refine SemK.buildPtr (zc := [.nilp]) (cs := [.addr 0 3, .addr 0 5, .addr 0 8]) ty50 (by simp -implicitDefEqProofs only [go_sem, seval]) ?_ ?_ (by decide) ?_ (by decide) ?_ ?_
  · rfl
  · rfl
  · exact fillA _ _ _ rfl
  · rfl
  simp -implicitDefEqProofs only [go_sem, seval]
set_option maxRecDepth 8000 in
theorem fields6 (a0 a1 a3 a4 a5 a6 a7 a8 a9 a10 a11 a12 a13 a14 a15 a16 : Int) : Abs.Spec Tryd.prog 20 [.box (ci [a0, a1, 7, a3, a4, a5, a6, a7, a8, a9, a10, a11, a12, a13, a14, a15, a16])] [.addr 0 0] [.box (ci [a0, a1, 7, a3, a4, a5, a6, a7, a8, a9, a10, a11, a12, a13, a14, a15, a16]), .box [.addr 0 3, .addr 0 5, .addr 0 8]] (.bsub 1 0 1 3 3) := by
  simp only [ci, List.map_cons, List.map_nil]
  refine sgo 193 1 [.tmp 2] mixed Tryd.func20 ?_
  simp -implicitDefEqProofs only [go_sem, seval]
  (with_reducible and_intros)<;>first|exact .dq|omega|skip
  with_reducible refine SemK.buildPtr (zc := [.nilp]) (cs := [.addr 0 3, .addr 0 5, .addr 0 8]) ty50 (by simp -implicitDefEqProofs only [go_sem, seval]) ?_ ?_ (by decide) ?_ (by decide) ?_ ?_
  · rfl
  · rfl
  · exact fillA _ _ _ rfl
  · rfl
  simp -implicitDefEqProofs only [go_sem, seval]
set_option maxRecDepth 8000 in
theorem fields7 (a0 a1 a3 a4 a5 a6 a7 a8 a9 a10 a11 a12 a13 a14 a15 a16 : Int) : Abs.Spec Tryd.prog 20 [.box (ci [a0, a1, 8, a3, a4, a5, a6, a7, a8, a9, a10, a11, a12, a13, a14, a15, a16])] [.addr 0 0] [.box (ci [a0, a1, 8, a3, a4, a5, a6, a7, a8, a9, a10, a11, a12, a13, a14, a15, a16]), .box [.addr 0 3, .addr 0 7, .addr 0 10]] (.bsub 1 0 1 3 3) := by
  simp only [ci, List.map_cons, List.map_nil]
  refine sgo 193 1 [.tmp 2] mixed Tryd.func20 ?_
  simp -implicitDefEqProofs only [go_sem, seval]
  (with_reducible and_intros)<;>first|exact .dq|omega|skip
  with_reducible refine SemK.buildPtr (zc := [.nilp]) (cs := [.addr 0 3, .addr 0 7, .addr 0 10]) ty50 (by simp -implicitDefEqProofs only [go_sem, seval]) ?_ ?_ (by decide) ?_ (by decide) ?_ ?_
  · rfl
  · rfl
  · exact fillA _ _ _ rfl
  · rfl
  simp -implicitDefEqProofs only [go_sem, seval]
set_option maxRecDepth 8000 in
theorem fields8 (a0 a1 a3 a4 a5 a6 a7 a8 a9 a10 a11 a12 a13 a14 a15 a16 : Int) : Abs.Spec Tryd.prog 20 [.box (ci [a0, a1, 9, a3, a4, a5, a6, a7, a8, a9, a10, a11, a12, a13, a14, a15, a16])] [.addr 0 0] [.box (ci [a0, a1, 9, a3, a4, a5, a6, a7, a8, a9, a10, a11, a12, a13, a14, a15, a16]), .box [.addr 0 7, .addr 0 10]] (.bsub 1 0 1 2 2) := by
  simp only [ci, List.map_cons, List.map_nil]
  refine sgo 193 1 [.tmp 2] mixed Tryd.func20 ?_
  simp -implicitDefEqProofs only [go_sem, seval]
  (with_reducible and_intros)<;>first|exact .dq|omega|skip
  with_reducible refine SemK.buildPtr (zc := [.nilp]) (cs := [.addr 0 7, .addr 0 10]) ty50 (by simp -implicitDefEqProofs only [go_sem, seval]) ?_ ?_ (by decide) ?_ (by decide) ?_ ?_
  · rfl
  · rfl
  · exact fillA _ _ _ rfl
  · rfl
  simp -implicitDefEqProofs only [go_sem, seval]
set_option maxRecDepth 8000 in
theorem fields9 (a0 a1 a3 a4 a5 a6 a7 a8 a9 a10 a11 a12 a13 a14 a15 a16 : Int) : Abs.Spec Tryd.prog 20 [.box (ci [a0, a1, 10, a3, a4, a5, a6, a7, a8, a9, a10, a11, a12, a13, a14, a15, a16])] [.addr 0 0] [.box (ci [a0, a1, 10, a3, a4, a5, a6, a7, a8, a9, a10, a11, a12, a13, a14, a15, a16]), .box [.addr 0 3, .addr 0 4, .addr 0 6, .addr 0 8, .addr 0 9]] (.bsub 1 0 1 5 5) := by
  simp only [ci, List.map_cons, List.map_nil]
  refine sgo 193 1 [.tmp 2] mixed Tryd.func20 ?_
  simp -implicitDefEqProofs only [go_sem, seval]
  (with_reducible and_intros)<;>first|exact .dq|omega|skip
  with_reducible refine SemK.buildPtr (zc := [.nilp]) (cs := [.addr 0 3, .addr 0 4, .addr 0 6, .addr 0 8, .addr 0 9]) ty50 (by simp -implicitDefEqProofs only [go_sem, seval]) ?_ ?_ (by decide) ?_ (by decide) ?_ ?_
  · rfl
  · rfl
  · exact fillA _ _ _ rfl
  · rfl
  simp -implicitDefEqProofs only [go_sem, seval]
set_option maxRecDepth 8000 in
theorem fields10 (a0 a1 a3 a4 a5 a6 a7 a8 a9 a10 a11 a12 a13 a14 a15 a16 : Int) : Abs.Spec Tryd.prog 20 [.box (ci [a0, a1, 11, a3, a4, a5, a6, a7, a8, a9, a10, a11, a12, a13, a14, a15, a16])] [.addr 0 0] [.box (ci [a0, a1, 11, a3, a4, a5, a6, a7, a8, a9, a10, a11, a12, a13, a14, a15, a16]), .box [.addr 0 5]] (.bsub 1 0 1 1 1) := by
  simp only [ci, List.map_cons, List.map_nil]
  refine sgo 193 1 [.tmp 2] mixed Tryd.func20 ?_
  simp -implicitDefEqProofs only [go_sem, seval]
  (with_reducible and_intros)<;>first|exact .dq|omega|skip
  with_reducible refine SemK.buildPtr (zc := [.nilp]) (cs := [.addr 0 5]) ty50 (by simp -implicitDefEqProofs only [go_sem, seval]) ?_ ?_ (by decide) ?_ (by decide) ?_ ?_
  · rfl
  · rfl
  · exact fillA _ _ _ rfl
  · rfl
  simp -implicitDefEqProofs only [go_sem, seval]
set_option maxRecDepth 8000 in
theorem fields11 (a0 a1 a3 a4 a5 a6 a7 a8 a9 a10 a11 a12 a13 a14 a15 a16 : Int) : Abs.Spec Tryd.prog 20 [.box (ci [a0, a1, 12, a3, a4, a5, a6, a7, a8, a9, a10, a11, a12, a13, a14, a15, a16])] [.addr 0 0] [.box (ci [a0, a1, 12, a3, a4, a5, a6, a7, a8, a9, a10, a11, a12, a13, a14, a15, a16]), .box [.addr 0 5, .addr 0 8, .addr 0 9]] (.bsub 1 0 1 3 3) := by
  simp only [ci, List.map_cons, List.map_nil]
  refine sgo 193 1 [.tmp 2] mixed Tryd.func20 ?_
  simp -implicitDefEqProofs only [go_sem, seval]
  (with_reducible and_intros)<;>first|exact .dq|omega|skip
  with_reducible refine SemK.buildPtr (zc := [.nilp]) (cs := [.addr 0 5, .addr 0 8, .addr 0 9]) ty50 (by simp -implicitDefEqProofs only [go_sem, seval]) ?_ ?_ (by decide) ?_ (by decide) ?_ ?_
  · rfl
  · rfl
  · exact fillA _ _ _ rfl
  · rfl
  simp -implicitDefEqProofs only [go_sem, seval]
set_option maxRecDepth 8000 in
theorem fields12 (a0 a1 a3 a4 a5 a6 a7 a8 a9 a10 a11 a12 a13 a14 a15 a16 : Int) : Abs.Spec Tryd.prog 20 [.box (ci [a0, a1, 13, a3, a4, a5, a6, a7, a8, a9, a10, a11, a12, a13, a14, a15, a16])] [.addr 0 0] [.box (ci [a0, a1, 13, a3, a4, a5, a6, a7, a8, a9, a10, a11, a12, a13, a14, a15, a16]), .box [.addr 0 6, .addr 0 9]] (.bsub 1 0 1 2 2) := by
  simp only [ci, List.map_cons, List.map_nil]
  refine sgo 193 1 [.tmp 2] mixed Tryd.func20 ?_
  simp -implicitDefEqProofs only [go_sem, seval]
  (with_reducible and_intros)<;>first|exact .dq|omega|skip
  with_reducible refine SemK.buildPtr (zc := [.nilp]) (cs := [.addr 0 6, .addr 0 9]) ty50 (by simp -implicitDefEqProofs only [go_sem, seval]) ?_ ?_ (by decide) ?_ (by decide) ?_ ?_
  · rfl
  · rfl
  · exact fillA _ _ _ rfl
  · rfl
  simp -implicitDefEqProofs only [go_sem, seval]
set_option maxRecDepth 8000 in
theorem fields16 (a0 a1 a3 a4 a5 a6 a7 a8 a9 a10 a11 a12 a13 a14 a15 a16 : Int) : Abs.Spec Tryd.prog 20 [.box (ci [a0, a1, 17, a3, a4, a5, a6, a7, a8, a9, a10, a11, a12, a13, a14, a15, a16])] [.addr 0 0] [.box (ci [a0, a1, 17, a3, a4, a5, a6, a7, a8, a9, a10, a11, a12, a13, a14, a15, a16]), .box [.addr 0 10]] (.bsub 1 0 1 1 1) := by
  simp only [ci, List.map_cons, List.map_nil]
  refine sgo 193 1 [.tmp 2] mixed Tryd.func20 ?_
  simp -implicitDefEqProofs only [go_sem, seval]
  (with_reducible and_intros)<;>first|exact .dq|omega|skip
  with_reducible refine SemK.buildPtr (zc := [.nilp]) (cs := [.addr 0 10]) ty50 (by simp -implicitDefEqProofs only [go_sem, seval]) ?_ ?_ (by decide) ?_ (by decide) ?_ ?_
  · rfl
  · rfl
  · exact fillA _ _ _ rfl
  · rfl
  simp -implicitDefEqProofs only [go_sem, seval]
set_option maxRecDepth 8000 in
theorem fields17 (a0 a1 a3 a4 a5 a6 a7 a8 a9 a10 a11 a12 a13 a14 a15 a16 : Int) : Abs.Spec Tryd.prog 20 [.box (ci [a0, a1, 18, a3, a4, a5, a6, a7, a8, a9, a10, a11, a12, a13, a14, a15, a16])] [.addr 0 0] [.box (ci [a0, a1, 18, a3, a4, a5, a6, a7, a8, a9, a10, a11, a12, a13, a14, a15, a16]), .box [.addr 0 3, .addr 0 6, .addr 0 4, .addr 0 8, .addr 0 9]] (.bsub 1 0 1 5 5) := by
  simp only [ci, List.map_cons, List.map_nil]
  refine sgo 193 1 [.tmp 2] mixed Tryd.func20 ?_
  simp -implicitDefEqProofs only [go_sem, seval]
  (with_reducible and_intros)<;>first|exact .dq|omega|skip
  with_reducible refine SemK.buildPtr (zc := [.nilp]) (cs := [.addr 0 3, .addr 0 6, .addr 0 4, .addr 0 8, .addr 0 9]) ty50 (by simp -implicitDefEqProofs only [go_sem, seval]) ?_ ?_ (by decide) ?_ (by decide) ?_ ?_
  · rfl
  · rfl
  · exact fillA _ _ _ rfl
  · rfl
  simp -implicitDefEqProofs only [go_sem, seval]
set_option maxRecDepth 8000 in
theorem fields18 (a0 a1 a3 a4 a5 a6 a7 a8 a9 a10 a11 a12 a13 a14 a15 a16 : Int) : Abs.Spec Tryd.prog 20 [.box (ci [a0, a1, 19, a3, a4, a5, a6, a7, a8, a9, a10, a11, a12, a13, a14, a15, a16])] [.addr 0 0] [.box (ci [a0, a1, 19, a3, a4, a5, a6, a7, a8, a9, a10, a11, a12, a13, a14, a15, a16]), .box [.addr 0 3]] (.bsub 1 0 1 1 1) := by
  simp only [ci, List.map_cons, List.map_nil]
  refine sgo 193 1 [.tmp 2] mixed Tryd.func20 ?_
  simp -implicitDefEqProofs only [go_sem, seval]
  (with_reducible and_intros)<;>first|exact .dq|omega|skip
  with_reducible refine SemK.buildPtr (zc := [.nilp]) (cs := [.addr 0 3]) ty50 (by simp -implicitDefEqProofs only [go_sem, seval]) ?_ ?_ (by decide) ?_ (by decide) ?_ ?_
  · rfl
  · rfl
  · exact fillA _ _ _ rfl
  · rfl
  simp -implicitDefEqProofs only [go_sem, seval]
set_option maxRecDepth 8000 in
theorem fields20 (a0 a1 a3 a4 a5 a6 a7 a8 a9 a10 a11 a12 a13 a14 a15 a16 : Int) : Abs.Spec Tryd.prog 20 [.box (ci [a0, a1, 21, a3, a4, a5, a6, a7, a8, a9, a10, a11, a12, a13, a14, a15, a16])] [.addr 0 0] [.box (ci [a0, a1, 21, a3, a4, a5, a6, a7, a8, a9, a10, a11, a12, a13, a14, a15, a16]), .box [.addr 0 5, .addr 0 3, .addr 0 7]] (.bsub 1 0 1 3 3) := by
  simp only [ci, List.map_cons, List.map_nil]
  refine sgo 193 1 [.tmp 2] mixed Tryd.func20 ?_
  simp -implicitDefEqProofs only [go_sem, seval]
  (with_reducible and_intros)<;>first|exact .dq|omega|skip
  with_reducible refine SemK.buildPtr (zc := [.nilp]) (cs := [.addr 0 5, .addr 0 3, .addr 0 7]) ty50 (by simp -implicitDefEqProofs only [go_sem, seval]) ?_ ?_ (by decide) ?_ (by decide) ?_ ?_
  · rfl
  · rfl
  · exact fillA _ _ _ rfl
  · rfl
  simp -implicitDefEqProofs only [go_sem, seval]
set_option maxRecDepth 8000 in
theorem fields21 (a0 a1 a3 a4 a5 a6 a7 a8 a9 a10 a11 a12 a13 a14 a15 a16 : Int) : Abs.Spec Tryd.prog 20 [.box (ci [a0, a1, 22, a3, a4, a5, a6, a7, a8, a9, a10, a11, a12, a13, a14, a15, a16])] [.addr 0 0] [.box (ci [a0, a1, 22, a3, a4, a5, a6, a7, a8, a9, a10, a11, a12, a13, a14, a15, a16]), .box [.addr 0 3, .addr 0 6]] (.bsub 1 0 1 2 2) := by
  simp only [ci, List.map_cons, List.map_nil]
  refine sgo 193 1 [.tmp 2] mixed Tryd.func20 ?_
  simp -implicitDefEqProofs only [go_sem, seval]
  (with_reducible and_intros)<;>first|exact .dq|omega|skip
  with_reducible refine SemK.buildPtr (zc := [.nilp]) (cs := [.addr 0 3, .addr 0 6]) ty50 (by simp -implicitDefEqProofs only [go_sem, seval]) ?_ ?_ (by decide) ?_ (by decide) ?_ ?_
  · rfl
  · rfl
  · exact fillA _ _ _ rfl
  · rfl
  simp -implicitDefEqProofs only [go_sem, seval]
set_option maxRecDepth 8000 in
theorem fields13 (a0 a1 a3 a4 a5 a6 a7 a8 a9 a10 a11 a12 a13 a14 a15 a16 : Int) : Abs.Spec Tryd.prog 20 [.box (ci [a0, a1, 14, a3, a4, a5, a6, a7, a8, a9, a10, a11, a12, a13, a14, a15, a16])] [.addr 0 0] [.box (ci [a0, a1, 14, a3, a4, a5, a6, a7, a8, a9, a10, a11, a12, a13, a14, a15, a16])] .nil := by
  simp only [ci, List.map_cons, List.map_nil]
  refine sgo 193 1 [.tmp 2] mixed Tryd.func20 ?_
  simp -implicitDefEqProofs only [go_sem, seval]
set_option maxRecDepth 8000 in
theorem fields14 (a0 a1 a3 a4 a5 a6 a7 a8 a9 a10 a11 a12 a13 a14 a15 a16 : Int) : Abs.Spec Tryd.prog 20 [.box (ci [a0, a1, 15, a3, a4, a5, a6, a7, a8, a9, a10, a11, a12, a13, a14, a15, a16])] [.addr 0 0] [.box (ci [a0, a1, 15, a3, a4, a5, a6, a7, a8, a9, a10, a11, a12, a13, a14, a15, a16])] .nil := by
  simp only [ci, List.map_cons, List.map_nil]
  refine sgo 193 1 [.tmp 2] mixed Tryd.func20 ?_
  simp -implicitDefEqProofs only [go_sem, seval]
set_option maxRecDepth 8000 in
theorem fields15 (a0 a1 a3 a4 a5 a6 a7 a8 a9 a10 a11 a12 a13 a14 a15 a16 : Int) : Abs.Spec Tryd.prog 20 [.box (ci [a0, a1, 16, a3, a4, a5, a6, a7, a8, a9, a10, a11, a12, a13, a14, a15, a16])] [.addr 0 0] [.box (ci [a0, a1, 16, a3, a4, a5, a6, a7, a8, a9, a10, a11, a12, a13, a14, a15, a16])] .nil := by
  simp only [ci, List.map_cons, List.map_nil]
  refine sgo 193 1 [.tmp 2] mixed Tryd.func20 ?_
  simp -implicitDefEqProofs only [go_sem, seval]
set_option maxRecDepth 8000 in
theorem fields19 (a0 a1 a3 a4 a5 a6 a7 a8 a9 a10 a11 a12 a13 a14 a15 a16 : Int) : Abs.Spec Tryd.prog 20 [.box (ci [a0, a1, 20, a3, a4, a5, a6, a7, a8, a9, a10, a11, a12, a13, a14, a15, a16])] [.addr 0 0] [.box (ci [a0, a1, 20, a3, a4, a5, a6, a7, a8, a9, a10, a11, a12, a13, a14, a15, a16])] .nil := by
  simp only [ci, List.map_cons, List.map_nil]
  refine sgo 193 1 [.tmp 2] mixed Tryd.func20 ?_
  simp -implicitDefEqProofs only [go_sem, seval]
end Go.Proofs.YtdklpddmplflgaaDoor
