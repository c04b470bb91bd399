/- strings.Join, told as data; AcctOrder's law; no theorem of a claim. -/
import Derived.Test.YthgplioeefjbfaaDoorA3
import Derived.Test.YthgplioeefjbfaaDoorShelf
set_option linter.unusedSimpArgs false
set_option linter.unusedVariables false
namespace Go.Proofs.YthgplioeefjbfaaDoor
open Go.Abs
theorem len_inter (s : List UInt8) (hs : s.length < 1000) : ∀ l : List (List UInt8), (∀ x ∈ l, x.length < 1000) → (s.intercalate l).length ≤ 2000 * l.length
  | [], _ => by simp [List.intercalate, List.intersperse]
  | [a], h => by have := h a (by simp); simp [List.intercalate, List.intersperse]; omega
  | a :: b :: r, h => by
    have h1 := h a (by simp)
    have h2 := len_inter s hs (b :: r) (fun x hx => h x (by simp [hx]))
    simp only [List.intercalate, List.intersperse, List.flatten_cons, List.length_append, List.length_cons] at h2 ⊢
    omega
theorem joinIs : JoinIs := by
  intro xs sep hne hl hx hs
  refine Spec.of_calls ⟨Tryd.f26, Tryd.func26, rfl, rfl⟩ ?_ (by simp [D.names])
  intro w l0 S0 vs hlev hsz hr
  obtain ⟨v0, v1, rfl⟩ : ∃ v0 v1, vs = #[v0, v1] := by
    obtain ⟨l⟩ := vs
    match l, hsz with
    | [a, b], _ => exact ⟨a, b, rfl⟩
  obtain ⟨bk, o, c, rfl, hc, hlt, hcell⟩ := strs_open (hr 0 v0 _ rfl rfl) hne
  obtain rfl := (hr 1 v1 _ rfl rfl).str_inv
  have hlen := len_inter sep.data.toList (by simpa using hs) (xs.map (·.data.toList)) (by intro x h; simp at h; obtain ⟨y, hy, rfl⟩ := h; simpa using hx y hy)
  refine (Tryd.strings_Join bk o c xs sep w hcell hlt (by omega) hc (by show (sep.data.toList.intercalate _).length ≤ _; simp at hlen; omega)).mono ?_
  rintro e w' ⟨rfl, hb⟩
  exact ⟨_, rfl, hb, .str _⟩
theorem order_holds (x y z : AcctV) : Abs.Spec Tryd.prog 3 [] [.agg x.cells, .agg y.cells, .agg z.cells] [] (.bool true) := order_spec joinIs x y z
end Go.Proofs.YthgplioeefjbfaaDoor
