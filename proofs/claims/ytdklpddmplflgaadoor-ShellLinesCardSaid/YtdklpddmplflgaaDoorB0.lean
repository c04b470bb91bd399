/- Pledges, as a list in order: what a change makes of it; no theorem of a claim. -/
import Derived.Test.YtdklpddmplflgaaDoorTypes
import Derived.Test.YtdklpddmplflgaaDoorAbcLoop
import Derived.Test.YtdklpddmplflgaaDoorAbcHard3
import Derived.Test.YtdklpddmplflgaaDoorAbcAuto
set_option linter.unusedSimpArgs false
set_option linter.unusedVariables false
namespace Go.Proofs.YtdklpddmplflgaaDoor
open Go.Abs
structure Plg where
  who : Int
  asset : Int
  units : Int
  deriving DecidableEq
theorem wr64 {x : Int} (h1 : -9223372036854775808 ≤ x) (h2 : x < 9223372036854775808) : IntKind.i64.wrap x = x := wrap64_id h1 h2
def Plg.key (p : Plg) : Int := p.who * 8 + p.asset
def rightB (w a : Int) : Bool := decide (1 ≤ w) && decide (w ≤ 16) && decide (1 ≤ a) && decide (a ≤ 6)
def Plg.ok (p : Plg) : Prop := rightB p.who p.asset = true ∧ 1 ≤ p.units ∧ p.units ≤ 1099511627776
theorem rightB_iff {w a : Int} : rightB w a = true ↔ 1 ≤ w ∧ w ≤ 16 ∧ 1 ≤ a ∧ a ≤ 6 := by
  simp only [rightB, Bool.and_eq_true, decide_eq_true_eq]; omega
def cmpW (p : Plg) (w a : Int) : Int := if p.who ≠ w then IntKind.wrap .i64 (p.who - w) else IntKind.wrap .i64 (p.asset - a)
theorem cmpW_small {p : Plg} {w a : Int} (hp : rightB p.who p.asset = true) (h : rightB w a = true) : cmpW p w a = if p.who ≠ w then p.who - w else p.asset - a := by
  rw [rightB_iff] at hp h
  unfold cmpW
  rw [wr64 (by omega) (by omega), wr64 (by omega) (by omega)]
theorem cmpW_lt {p : Plg} {w a : Int} (hp : rightB p.who p.asset = true) (h : rightB w a = true) : cmpW p w a < 0 ↔ p.key < w * 8 + a := by
  rw [cmpW_small hp h]
  rw [rightB_iff] at hp h
  unfold Plg.key
  split <;> omega
theorem cmpW_eq {p : Plg} {w a : Int} (hp : rightB p.who p.asset = true) (h : rightB w a = true) : cmpW p w a = 0 ↔ p.key = w * 8 + a := by
  rw [cmpW_small hp h]
  rw [rightB_iff] at hp h
  unfold Plg.key
  split <;> omega
theorem key_inj {p : Plg} {w a : Int} (hp : rightB p.who p.asset = true) (h : rightB w a = true) : p.key = w * 8 + a ↔ p.who = w ∧ p.asset = a := by
  rw [rightB_iff] at hp h
  unfold Plg.key
  omega
def okAt (ps : List Plg) (i : Nat) : Bool :=
  match ps[i]? with
  | none => true
  | some p => rightB p.who p.asset && decide (1 ≤ p.units) && decide (p.units ≤ 1099511627776) && (match i with
    | 0 => true
    | j + 1 => match ps[j]? with
      | some q => decide (cmpW q p.who p.asset < 0)
      | none => true)
def checkB (ps : List Plg) : Bool := (List.range ps.length).all (okAt ps)
/-- in order, and each right -/
def Good (ps : List Plg) : Prop := (∀ p ∈ ps, p.ok) ∧ ps.Pairwise (fun p q => p.key < q.key)
theorem check_good {ps : List Plg} : checkB ps = true ↔ Good ps := by
  have hok : ∀ i (h : i < ps.length), okAt ps i = true ↔ ps[i].ok ∧ ∀ j, (hj : j + 1 = i) → cmpW (ps[j]'(by omega)) ps[i].who ps[i].asset < 0 := by
    intro i h
    unfold okAt
    rw [List.getElem?_eq_getElem h]
    cases i with
    | zero => simp [Plg.ok, and_assoc]
    | succ i =>
      simp only [List.getElem?_eq_getElem (show i < ps.length by omega), Bool.and_eq_true, decide_eq_true_eq, Plg.ok]
      constructor
      · rintro ⟨⟨⟨h1, h2⟩, h3⟩, h4⟩
        exact ⟨⟨h1, h2, h3⟩, fun j hj => (show j = i by omega) ▸ h4⟩
      · rintro ⟨⟨h1, h2, h3⟩, h4⟩
        exact ⟨⟨⟨h1, h2⟩, h3⟩, h4 i rfl⟩
  constructor
  · intro hc
    have hall : ∀ i (h : i < ps.length), okAt ps i = true := by
      intro i h
      exact List.all_eq_true.1 hc i (List.mem_range.2 h)
    have hp : ∀ i (h : i < ps.length), ps[i].ok := fun i h => ((hok i h).1 (hall i h)).1
    refine ⟨?_, ?_⟩
    · intro p hm
      obtain ⟨i, hi, rfl⟩ := List.mem_iff_getElem.1 hm
      exact hp i hi
    · rw [List.pairwise_iff_getElem]
      have key : ∀ d i (hj : i + d + 1 < ps.length), ps[i].key < ps[i + d + 1].key := by
        intro d
        induction d with
        | zero =>
          intro i hj
          have h1 := ((hok (i + 1) hj).1 (hall _ hj)).2 i rfl
          rw [cmpW_lt (hp i (by omega)).1 (hp (i + 1) hj).1] at h1
          exact h1
        | succ d ih =>
          intro i hj
          have h0 := ih i (by omega)
          have h1 := ((hok (i + d + 1 + 1) hj).1 (hall _ hj)).2 (i + d + 1) rfl
          rw [cmpW_lt (hp (i + d + 1) (by omega)).1 (hp (i + d + 1 + 1) hj).1] at h1
          exact Int.lt_trans h0 h1
      intro i j hi hj hij
      have := key (j - i - 1) i (by omega)
      have e : i + (j - i - 1) + 1 = j := by omega
      simpa only [e] using this
  · rintro ⟨h1, h2⟩
    rw [List.pairwise_iff_getElem] at h2
    refine List.all_eq_true.2 fun i hi => ?_
    have hi := List.mem_range.1 hi
    rw [hok i hi]
    refine ⟨h1 _ (List.getElem_mem hi), ?_⟩
    intro j hj
    have hjl : j < ps.length := by omega
    rw [cmpW_lt (h1 _ (List.getElem_mem hjl)).1 (h1 _ (List.getElem_mem hi)).1]
    exact h2 j i hjl hi (by omega)
/-- how many come before the key -/
def pos (K : Int) : List Plg → Nat
  | [] => 0
  | p :: r => if p.key < K then pos K r + 1 else 0
def isAt (K : Int) : List Plg → Bool
  | [] => false
  | p :: r => if p.key < K then isAt K r else decide (p.key = K)
theorem pos_le (K : Int) : ∀ ps : List Plg, pos K ps ≤ ps.length
  | [] => by simp [pos]
  | p :: r => by have := pos_le K r; simp only [pos]; split <;> simp <;> omega
theorem pos_lt {K : Int} : ∀ {ps : List Plg} {i : Nat} (h : i < pos K ps) (hl : i < ps.length), ps[i].key < K
  | [], i, h, hl => by simp at hl
  | p :: r, i, h, hl => by
    simp only [pos] at h
    split at h
    · cases i with
      | zero => assumption
      | succ i => exact pos_lt (ps := r) (by omega) (by simpa using hl)
    · omega
theorem pos_ge {K : Int} : ∀ {ps : List Plg} (hg : ps.Pairwise (fun p q => p.key < q.key)) {i : Nat} (h : pos K ps ≤ i) (hl : i < ps.length), K ≤ ps[i].key
  | [], _, i, h, hl => by simp at hl
  | p :: r, hg, i, h, hl => by
    rw [List.pairwise_cons] at hg
    simp only [pos] at h
    split at h
    · cases i with
      | zero => omega
      | succ i => exact pos_ge (ps := r) hg.2 (by omega) (by simpa using hl)
    · cases i with
      | zero => rename_i hh; simpa using hh
      | succ i =>
        rename_i hh
        have hl' : i < r.length := by simpa using hl
        have := hg.1 r[i] (List.getElem_mem hl')
        simp only [List.getElem_cons_succ]; omega
theorem pos_unique {K : Int} {ps : List Plg} (hg : ps.Pairwise (fun p q => p.key < q.key)) {m : Nat} (hm : m ≤ ps.length) (h1 : ∀ i (hl : i < ps.length), i < m → ps[i].key < K) (h2 : ∀ i (hl : i < ps.length), m ≤ i → K ≤ ps[i].key) : m = pos K ps := by
  have hp := pos_le K ps
  rcases Nat.lt_trichotomy m (pos K ps) with h | h | h
  · have a := pos_lt h (by omega)
    have b := h2 m (by omega) (Nat.le_refl _)
    omega
  · exact h
  · have a := h1 (pos K ps) (by omega) h
    have b := pos_ge hg (Nat.le_refl (pos K ps)) (by omega)
    omega
theorem isAt_eq {K : Int} : ∀ {ps : List Plg}, isAt K ps = match ps[pos K ps]? with | some p => decide (p.key = K) | none => false
  | [] => rfl
  | p :: r => by
    simp only [isAt, pos]
    split
    · rw [List.getElem?_cons_succ]; exact isAt_eq
    · rfl
/-- the list with so many units under the key -/
def chg (w a n : Int) : List Plg → List Plg
  | [] => if n > 0 then [⟨w, a, n⟩] else []
  | p :: r => if p.key < w * 8 + a then p :: chg w a n r else if p.key = w * 8 + a then (if n > 0 then ⟨w, a, n⟩ :: r else r) else (if n > 0 then ⟨w, a, n⟩ :: p :: r else p :: r)
def unitsL (w a : Int) : List Plg → Int
  | [] => 0
  | p :: r => if p.who = w ∧ p.asset = a then p.units else unitsL w a r
theorem chg_eq (w a n : Int) : ∀ ps : List Plg, chg w a n ps = ps.take (pos (w * 8 + a) ps) ++ (if n > 0 then [⟨w, a, n⟩] else []) ++ ps.drop (pos (w * 8 + a) ps + if isAt (w * 8 + a) ps then 1 else 0)
  | [] => by simp [chg, pos, isAt]
  | p :: r => by
    have ih := chg_eq w a n r
    simp only [chg, pos, isAt]
    by_cases h : p.key < w * 8 + a
    · simp only [if_pos h, ih]
      simp only [List.take_succ_cons, List.cons_append]
      congr 2
      have : pos (w * 8 + a) r + 1 + (if isAt (w * 8 + a) r = true then 1 else 0) = (pos (w * 8 + a) r + if isAt (w * 8 + a) r = true then 1 else 0) + 1 := by omega
      rw [this, List.drop_succ_cons]
    · simp only [if_neg h]
      by_cases h2 : p.key = w * 8 + a
      · simp only [if_pos h2]; by_cases hn : n > 0 <;> simp [h2, hn]
      · simp only [if_neg h2]; by_cases hn : n > 0 <;> simp [h2, hn]
theorem chg_key {w a n : Int} : ∀ {ps : List Plg} {q : Plg}, q ∈ chg w a n ps → q ∈ ps ∨ (q = ⟨w, a, n⟩ ∧ n > 0)
  | [], q, h => by
    simp only [chg] at h
    split at h
    · simp at h; exact .inr ⟨h, by assumption⟩
    · simp at h
  | p :: r, q, h => by
    simp only [chg] at h
    split at h
    · rcases List.mem_cons.1 h with h | h
      · exact .inl (by simp [h])
      · rcases chg_key h with h | h
        · exact .inl (by simp [h])
        · exact .inr h
    · split at h
      · split at h
        · rcases List.mem_cons.1 h with h | h
          · exact .inr ⟨h, by assumption⟩
          · exact .inl (by simp [h])
        · exact .inl (by simp [h])
      · split at h
        · rcases List.mem_cons.1 h with h | h
          · exact .inr ⟨h, by assumption⟩
          · exact .inl h
        · exact .inl h
theorem chg_good {w a n : Int} (hr : rightB w a = true) (hn : n ≤ 1099511627776) {ps : List Plg} (hg : Good ps) : Good (chg w a n ps) := by
  refine ⟨?_, ?_⟩
  · intro q hq
    rcases chg_key hq with h | ⟨rfl, h⟩
    · exact hg.1 q h
    · exact ⟨hr, by show 1 ≤ n; omega, hn⟩
  · have hp := hg.2
    clear hg
    induction ps with
    | nil => simp only [chg]; split <;> simp
    | cons p r ih =>
      rw [List.pairwise_cons] at hp
      simp only [chg]
      split
      · rename_i h
        rw [List.pairwise_cons]
        refine ⟨?_, ih hp.2⟩
        intro q hq
        rcases chg_key hq with h2 | ⟨rfl, _⟩
        · exact hp.1 q h2
        · exact h
      · split
        · split
          · rename_i h1 h2 _
            rw [List.pairwise_cons]
            refine ⟨?_, hp.2⟩
            intro q hq
            have := hp.1 q hq
            show w * 8 + a < q.key
            omega
          · exact hp.2
        · split
          · rename_i h1 h2 _
            rw [List.pairwise_cons, List.pairwise_cons]
            refine ⟨?_, hp⟩
            intro q hq
            show w * 8 + a < q.key
            rcases List.mem_cons.1 hq with rfl | hq
            · omega
            · have := hp.1 q hq; omega
          · rw [List.pairwise_cons]; exact hp
theorem units_none {w a : Int} : ∀ {ps : List Plg}, (∀ p ∈ ps, ¬ (p.who = w ∧ p.asset = a)) → unitsL w a ps = 0
  | [], _ => rfl
  | p :: r, h => by simp only [unitsL, if_neg (h p (by simp))]; exact units_none fun q hq => h q (by simp [hq])
theorem units_chg {w a n : Int} (hr : rightB w a = true) (hn : 0 ≤ n) : ∀ {ps : List Plg}, Good ps → unitsL w a (chg w a n ps) = n
  | [], _ => by
    simp only [chg]; split
    · simp [unitsL]
    · simp [unitsL]; omega
  | p :: r, hg => by
    have hp := (hg.1 p (by simp)).1
    have hgr : Good r := ⟨fun q hq => hg.1 q (by simp [hq]), (List.pairwise_cons.1 hg.2).2⟩
    have hlt := (List.pairwise_cons.1 hg.2).1
    have hkey := key_inj hp hr
    have hrest : w * 8 + a ≤ p.key → ∀ q ∈ r, ¬ (q.who = w ∧ q.asset = a) := by
      intro hle q hq hh
      have h1 := (key_inj (hg.1 q (by simp [hq])).1 hr).2 hh
      have h2 := hlt q hq
      omega
    simp only [chg]
    split
    · rename_i h
      have : ¬ (p.who = w ∧ p.asset = a) := fun hh => by have := hkey.2 hh; omega
      simp only [unitsL, if_neg this]
      exact units_chg hr hn hgr
    · split
      · split
        · simp [unitsL]
        · rw [units_none (hrest (by omega))]; omega
      · rename_i h1 h2
        have : ¬ (p.who = w ∧ p.asset = a) := fun hh => h2 (hkey.2 hh)
        split
        · simp [unitsL]
        · simp only [unitsL, if_neg this]
          rw [units_none (hrest (by omega))]; omega
theorem units_other {w a n w' a' : Int} (hne : ¬ (w' = w ∧ a' = a)) (hr : rightB w a = true) : ∀ {ps : List Plg}, Good ps → unitsL w' a' (chg w a n ps) = unitsL w' a' ps
  | [], _ => by
    have : ¬ (w = w' ∧ a = a') := fun h => hne ⟨h.1.symm, h.2.symm⟩
    simp only [chg]; split
    · simp [unitsL, this]
    · rfl
  | p :: r, hg => by
    have hp := (hg.1 p (by simp)).1
    have hgr : Good r := ⟨fun q hq => hg.1 q (by simp [hq]), (List.pairwise_cons.1 hg.2).2⟩
    have hh : ¬ (w = w' ∧ a = a') := fun h => hne ⟨h.1.symm, h.2.symm⟩
    have hkey := key_inj hp hr
    simp only [chg]
    split
    · simp only [unitsL, units_other hne hr hgr]
    · split
      · rename_i h1 h2
        have e := hkey.1 h2
        have : ¬ (p.who = w' ∧ p.asset = a') := fun h => hne ⟨by rw [← h.1, e.1], by rw [← h.2, e.2]⟩
        split
        · simp [unitsL, hh, this]
        · simp [unitsL, this]
      · split
        · simp [unitsL, hh]
        · rfl
/-- back again -/
theorem chg_back {w a n : Int} (hr : rightB w a = true) : ∀ {ps : List Plg}, Good ps → chg w a (unitsL w a ps) (chg w a n ps) = ps
  | [], _ => by
    simp only [unitsL, chg]
    split
    · simp [chg, Plg.key]
    · simp [chg]
  | p :: r, hg => by
    have hp := (hg.1 p (by simp)).1
    have hpo := (hg.1 p (by simp)).2
    have hgr : Good r := ⟨fun q hq => hg.1 q (by simp [hq]), (List.pairwise_cons.1 hg.2).2⟩
    have hlt := (List.pairwise_cons.1 hg.2).1
    have hkey := key_inj hp hr
    have hrest : w * 8 + a ≤ p.key → ∀ q ∈ r, ¬ (q.who = w ∧ q.asset = a) := by
      intro hle q hq hh
      have h1 := (key_inj (hg.1 q (by simp [hq])).1 hr).2 hh
      have h2 := hlt q hq
      omega
    have hself : ∀ x, Plg.key ⟨w, a, x⟩ = w * 8 + a := fun _ => rfl
    by_cases h : p.key < w * 8 + a
    · have hn : ¬ (p.who = w ∧ p.asset = a) := fun hh => by have := hkey.2 hh; omega
      simp only [chg, if_pos h, unitsL, if_neg hn]
      rw [chg_back hr hgr]
    · by_cases h2 : p.key = w * 8 + a
      · have e := hkey.1 h2
        have hpe : (⟨w, a, p.units⟩ : Plg) = p := by cases p; simp_all
        simp only [chg, if_neg h, if_pos h2, unitsL, if_pos e]
        split
        · simp only [chg, hself, Int.lt_irrefl, if_false, if_true]
          rw [if_pos (by omega), hpe]
        · cases r with
          | nil => simp only [chg]; rw [if_pos (by omega), hpe]
          | cons q r =>
            have hq := hlt q (by simp)
            have a1 : ¬ q.key < w * 8 + a := by omega
            have a2 : ¬ q.key = w * 8 + a := by omega
            simp only [chg, if_neg a1, if_neg a2]
            rw [if_pos (by omega), hpe]
      · have hn : ¬ (p.who = w ∧ p.asset = a) := fun hh => h2 (hkey.2 hh)
        have hu : unitsL w a r = 0 := units_none (hrest (by omega))
        simp only [chg, if_neg h, if_neg h2, unitsL, if_neg hn, hu]
        split
        · simp only [chg, hself, Int.lt_irrefl, if_false, if_true, gt_iff_lt]
        · simp only [chg, if_neg h, if_neg h2, gt_iff_lt, Int.lt_irrefl, if_false]
end Go.Proofs.YtdklpddmplflgaaDoor
