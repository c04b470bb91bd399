/- A state's data opened; no theorem of a claim. -/
import Derived.Test.YtbllopdcbkeadaaC9
set_option linter.unusedSimpArgs false
set_option linter.unusedVariables false
namespace Go.Proofs.Ytbllopdcbkeadaa
open Go.Abs
theorem fit_member (r : List D) (h : FitL [.int .i64, .int .i64, .int .i64] r) : ∃ x : MemberV, True ∧ r = x.cells := by
  simp only [FitL, Fit] at h
  obtain ⟨_, _, rfl, ⟨a, rfl, _⟩, _, _, rfl, ⟨b, rfl, _⟩, _, _, rfl, ⟨c, rfl, _⟩, rfl⟩ := h
  exact ⟨⟨a, b, c⟩, trivial, rfl⟩
theorem fit_ast (r : List D) (h : FitL [.int .i64, .int .i64, .int .i64, .int .i64] r) : ∃ x : AssetV, True ∧ r = x.cells := by
  simp only [FitL, Fit] at h
  obtain ⟨_, _, rfl, ⟨a, rfl, _⟩, _, _, rfl, ⟨b, rfl, _⟩, _, _, rfl, ⟨c, rfl, _⟩, _, _, rfl, ⟨d, rfl, _⟩, rfl⟩ := h
  exact ⟨⟨a, b, c, d⟩, trivial, rfl⟩
theorem fit_bal (r : List D) (h : FitL [.int .i64, .int .i64, .int .i64, .int .i64] r) : ∃ x : BalV, True ∧ r = x.cells := by
  simp only [FitL, Fit] at h
  obtain ⟨_, _, rfl, ⟨a, rfl, _⟩, _, _, rfl, ⟨b, rfl, _⟩, _, _, rfl, ⟨c, rfl, _⟩, _, _, rfl, ⟨d, rfl, _⟩, rfl⟩ := h
  exact ⟨⟨a, b, c, d⟩, trivial, rfl⟩
theorem fit_inst (r : List D) (h : FitL [.int .i64, .int .i64, .int .i64, .int .i64, .int .i64, .int .i64, .int .i64, .int .i64, .int .i64, .int .i64, .int .i64, .int .i64] r) : ∃ x : InstV, True ∧ r = x.cells := by
  simp only [FitL, Fit] at h
  obtain ⟨_, _, rfl, ⟨a, rfl, _⟩, _, _, rfl, ⟨b, rfl, _⟩, _, _, rfl, ⟨c, rfl, _⟩, _, _, rfl, ⟨d, rfl, _⟩, _, _, rfl, ⟨e, rfl, _⟩, _, _, rfl, ⟨f, rfl, _⟩, _, _, rfl, ⟨g, rfl, _⟩, _, _, rfl, ⟨i, rfl, _⟩, _, _, rfl, ⟨j, rfl, _⟩, _, _, rfl, ⟨k, rfl, _⟩, _, _, rfl, ⟨m, rfl, _⟩, _, _, rfl, ⟨n, rfl, _⟩, rfl⟩ := h
  exact ⟨⟨a, b, c, d, e, f, g, i, j, k, m, n⟩, trivial, rfl⟩
theorem fit_state {t p c b st : List Sh} {ds : List D} (h : FitL [.int .i64, .int .i64, .int .i64, .sl 3 [.int .i64, .int .i64, .int .i64], .sl 12 [.int .i64, .int .i64, .int .i64, .int .i64, .int .i64, .int .i64, .int .i64, .int .i64, .int .i64, .int .i64, .int .i64, .int .i64], .sl 4 [.int .i64, .int .i64, .int .i64, .int .i64],
      .int .i64, .sl 7 t, .sl 4 p, .int .i64, .sl 4 [.int .i64, .int .i64, .int .i64, .int .i64], .sl 3 [.int .i64, .int .i64, .int .i64], .sl 4 c, .sl 5 b, .sl 7 st] ds) : ∃ x : StateV, True ∧ ds = x.cells := by
  obtain ⟨_, _, rfl, ⟨n0, rfl, _⟩, _, _, rfl, ⟨n1, rfl, _⟩, _, _, rfl, ⟨n2, rfl, _⟩, _, _, rfl, ⟨ms, rfl, f3⟩, _, _, rfl, ⟨ns, rfl, f4⟩, _, _, rfl, ⟨xs, rfl, f5⟩, _, _, rfl, ⟨n6, rfl, _⟩, _, _, rfl, ⟨ts, rfl, _⟩, _, _, rfl, ⟨qs, rfl, _⟩,
    _, _, rfl, ⟨n9, rfl, _⟩, _, _, rfl, ⟨bs, rfl, f10⟩, _, _, rfl, ⟨pp, rfl, f11⟩, _, _, rfl, ⟨cs, rfl, _⟩, _, _, rfl, ⟨bb, rfl, _⟩, _, _, rfl, ⟨ss, rfl, _⟩, rfl⟩ := h
  obtain ⟨ms, rfl, _⟩ := rows_of (c := MemberV.cells) fit_member f3
  obtain ⟨ns, rfl, _⟩ := rows_of (c := InstV.cells) fit_inst f4
  obtain ⟨xs, rfl, _⟩ := rows_of (c := AssetV.cells) fit_ast f5
  obtain ⟨bs, rfl, _⟩ := rows_of (c := BalV.cells) fit_bal f10
  obtain ⟨pp, rfl, _⟩ := rows_of (c := Plg.cells) fit_plg f11
  exact ⟨⟨n0, n1, n2, ⟨ms, ns, xs⟩, n6, ts, qs, ⟨n9, bs⟩, pp, cs, bb, ss⟩, trivial, rfl⟩
end Go.Proofs.Ytbllopdcbkeadaa
