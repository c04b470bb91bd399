/- More pledged, more cover: the plain law; no theorem of a claim. -/
import Derived.Test.YtbllopdcbkeadaaC5
set_option linter.unusedSimpArgs false
set_option linter.unusedVariables false
namespace Go.Proofs.Ytbllopdcbkeadaa
open Go.Abs
def hitV (r : RollV) (w c : Int) (x : Plg) : Int := if hitB r w c x then (astOf r x).V x.units else 0
def sumV (r : RollV) (w c : Int) : List Plg → Int
  | [] => 0
  | x :: l => hitV r w c x + sumV r w c l
theorem sumV_eq (r : RollV) (w c : Int) : ∀ ps : List Plg, sumL (valsL r w c ps) = sumV r w c ps
  | [] => rfl
  | x :: l => by
    have ih := sumV_eq r w c l
    simp only [valsL] at ih
    simp only [sumV, hitV, valsL, List.filter]
    cases hb : hitB r w c x
    · simp only [Bool.false_eq_true, if_false, ih]; omega
    · simp only [List.map_cons, sumL, if_true, ih]
theorem V_zero (x : AssetV) : x.V 0 = 0 := by
  have hP : x.P 0 = 0 := by simp [AssetV.P]
  simp only [AssetV.V, hP, quoQ]
  split
  · simp
  · rfl
theorem hitV_zero (r : RollV) (w c w0 a : Int) : hitV r w c ⟨w0, a, 0⟩ = 0 := by
  simp only [hitV]
  split
  · exact V_zero _
  · rfl
theorem sumV_chg (r : RollV) (w c : Int) {w0 a n : Int} (hr : rightB w0 a = true) (hn : 0 ≤ n) : ∀ {ps : List Plg}, Good ps → sumV r w c (chg w0 a n ps) = sumV r w c ps + hitV r w c ⟨w0, a, n⟩ - hitV r w c ⟨w0, a, unitsL w0 a ps⟩
  | [], _ => by
    have hz := hitV_zero r w c w0 a
    simp only [chg, unitsL, hz]
    split
    · simp only [sumV]; omega
    · have : n = 0 := by omega
      subst this
      simp only [sumV, hz]; omega
  | p :: l, hg => by
    have hz := hitV_zero r w c w0 a
    have hp := (hg.1 p (by simp)).1
    have hgr : Good l := ⟨fun q hq => hg.1 q (by simp [hq]), (List.pairwise_cons.1 hg.2).2⟩
    have hlt := (List.pairwise_cons.1 hg.2).1
    have hkey := key_inj hp hr
    have hrest : w0 * 8 + a ≤ p.key → ∀ q ∈ l, ¬ (q.who = w0 ∧ q.asset = a) := by
      intro hle q hq hh
      have h1 := (key_inj (hg.1 q (by simp [hq])).1 hr).2 hh
      have h2 := hlt q hq
      omega
    by_cases h : p.key < w0 * 8 + a
    · have hne : ¬ (p.who = w0 ∧ p.asset = a) := fun hh => by have := hkey.2 hh; omega
      simp only [chg, if_pos h, sumV, unitsL, if_neg hne]
      have := sumV_chg r w c hr hn hgr
      omega
    · by_cases h2 : p.key = w0 * 8 + a
      · have e := hkey.1 h2
        have hpe : (⟨w0, a, p.units⟩ : Plg) = p := by cases p; simp_all
        simp only [chg, if_neg h, if_pos h2, unitsL, if_pos e, hpe]
        split
        · simp only [sumV]; omega
        · have : n = 0 := by omega
          subst this
          simp only [sumV, hz]; omega
      · have hne : ¬ (p.who = w0 ∧ p.asset = a) := fun hh => h2 (hkey.2 hh)
        have hu : unitsL w0 a l = 0 := units_none (hrest (by omega))
        simp only [chg, if_neg h, if_neg h2, unitsL, if_neg hne, hu, hz]
        split
        · simp only [sumV]; omega
        · have : n = 0 := by omega
          subst this
          simp only [sumV, hz]; omega
theorem firstE_zero {r : RollV} {w c : Int} : ∀ {ps : List Plg}, firstE r w c ps = 0 → ∀ x ∈ ps, hitB r w c x = true → (astOf r x).E x.units = 0
  | [], _, x, hx, _ => by cases hx
  | p :: l, h, x, hx, hh => by
    simp only [firstE] at h
    by_cases hb : (hitB r w c p && (astOf r p).E p.units != 0) = true
    · rw [if_pos hb] at h
      rw [h] at hb
      simp at hb
    · rw [if_neg hb] at h
      rcases List.mem_cons.1 hx with rfl | hx
      · simp only [hh, Bool.true_and, bne_iff_ne, ne_eq, Classical.not_not] at hb
        exact hb
      · exact firstE_zero h x hx hh
/-- when the worth is without fault it is the floor of the product -/
theorem V_of {x : AssetV} {u : Int} (h : x.E u = 0) : x.V u = x.P u / 10000 ∧ inR (x.P u / 10000) = true ∧ x.fit u = true := by
  have hf : x.fit u = true := by
    cases hf : x.fit u
    · simp [AssetV.E, hf] at h
    · rfl
  have hR : inR (x.P u / 10000) = true := by
    cases hR : inR (x.P u / 10000)
    · simp [AssetV.E, hf, quoE, hR] at h
    · rfl
  exact ⟨by simp [AssetV.V, hf, quoQ, hR], hR, hf⟩
theorem E_le {x : AssetV} {u n : Int} (hn : x.E n = 0) (h0 : 0 ≤ u) (hu : u ≤ n) : x.E u = 0 := by
  obtain ⟨-, hR, hf⟩ := V_of hn
  have hok : x.ok = true ∧ 0 ≤ n ∧ n ≤ 1099511627776 := by
    simp only [AssetV.fit, Bool.and_eq_true, decide_eq_true_eq] at hf
    exact ⟨hf.1.1, hf.1.2, hf.2⟩
  have hr := (AssetV.ok_iff x).1 hok.1
  have hfu : x.fit u = true := by
    simp only [AssetV.fit, Bool.and_eq_true, decide_eq_true_eq]
    exact ⟨⟨hok.1, h0⟩, by omega⟩
  have hm : 0 ≤ (10000 - x.d) * x.c := Int.mul_nonneg (by omega) (by omega)
  have e1 : x.P u = u * ((10000 - x.d) * x.c) := by simp only [AssetV.P, Int.mul_assoc]
  have e2 : x.P n = n * ((10000 - x.d) * x.c) := by simp only [AssetV.P, Int.mul_assoc]
  have l1 : x.P u ≤ x.P n := by rw [e1, e2]; exact Int.mul_le_mul_of_nonneg_right hu hm
  have l0 : 0 ≤ x.P u := by rw [e1]; exact Int.mul_nonneg h0 hm
  have hRu : inR (x.P u / 10000) = true := by
    simp only [inR, Bool.and_eq_true, decide_eq_true_eq] at hR ⊢
    omega
  simp [AssetV.E, hfu, quoE, hRu]
theorem V_add {x : AssetV} {o u : Int} (hE : x.E (o + u) = 0) (h0 : 0 ≤ o) (hu : 0 ≤ u) : x.V (o + u) - x.V o = x.V u ∨ x.V (o + u) - x.V o = x.V u + 1 := by
  have h1 := (V_of hE).1
  have h2 := (V_of (E_le hE h0 (by omega))).1
  have h3 := (V_of (E_le hE hu (by omega))).1
  have e : x.P (o + u) = x.P o + x.P u := by simp only [AssetV.P, Int.add_mul]
  rw [h1, h2, h3, e]
  omega
theorem getL_unique {xs : List AssetV} (h : rises AssetV.a AssetV.ok xs = true) {i : Nat} (hi : i < xs.length) : getL AssetV.a xs[i].a ⟨0, 0, 0, 0⟩ xs = xs[i] ∧ posL AssetV.a xs[i].a xs = i := by
  refine getL_hit hi ?_ rfl
  intro j hj hji
  have step : ∀ k (hk : k + 1 < xs.length), xs[k].a < xs[k + 1].a := by
    intro k hk
    have := List.all_eq_true.1 h (k + 1) (List.mem_range.2 hk)
    rw [risesAt_pos AssetV.a AssetV.ok xs hk (by omega)] at this
    simp only [Bool.and_eq_true, decide_eq_true_eq] at this
    exact this.2
  have key : ∀ d k (hk : k + d + 1 < xs.length), xs[k].a < xs[k + d + 1].a := by
    intro d
    induction d with
    | zero => intro k hk; exact step k hk
    | succ d ih =>
      intro k hk
      exact Int.lt_trans (ih k (by omega)) (step (k + d + 1) hk)
  have := key (i - j - 1) j (by omega)
  have e : j + (i - j - 1) + 1 = i := by omega
  simp only [e] at this
  omega
end Go.Proofs.Ytbllopdcbkeadaa
