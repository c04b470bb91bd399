/- Pledges, as a list in order: what a change makes of it. Pledges: what is asked of them, and what is read. The library's functions on slices of pledges. slices.Insert of one pledge. slices.BinarySearchFunc over pledges in order. cover.Change. No theorem of a claim. -/
import Derived.Test.YtbllopdcbkeadaaTypes
import Derived.Test.YtbllopdcbkeadaaAbcLoop
import Derived.Test.YtbllopdcbkeadaaAbcHard3
set_option linter.unusedSimpArgs false
set_option linter.unusedVariables false
namespace Go.Proofs.Ytbllopdcbkeadaa
open Go.Abs
structure Plg where
  who : Int
  asset : Int
  units : Int
  deriving DecidableEq
theorem wr64 {x : Int} (h1 : -9223372036854775808 ≤ x) (h2 : x < 9223372036854775808) : IntKind.i64.wrap x = x := wrap64_id h1 h2
def Plg.key (p : Plg) : Int := p.who * 8 + p.asset
def rightB (w a : Int) : Bool := decide (1 ≤ w) && decide (w ≤ 16) && decide (1 ≤ a) && decide (a ≤ 6)
def Plg.ok (p : Plg) : Prop := rightB p.who p.asset = true ∧ 1 ≤ p.units ∧ p.units ≤ 1099511627776
theorem rightB_iff {w a : Int} : rightB w a = true ↔ 1 ≤ w ∧ w ≤ 16 ∧ 1 ≤ a ∧ a ≤ 6 := by
  simp only [rightB, Bool.and_eq_true, decide_eq_true_eq]; omega
def cmpW (p : Plg) (w a : Int) : Int := if p.who ≠ w then IntKind.wrap .i64 (p.who - w) else IntKind.wrap .i64 (p.asset - a)
theorem cmpW_small {p : Plg} {w a : Int} (hp : rightB p.who p.asset = true) (h : rightB w a = true) : cmpW p w a = if p.who ≠ w then p.who - w else p.asset - a := by
  rw [rightB_iff] at hp h
  unfold cmpW
  rw [wr64 (by omega) (by omega), wr64 (by omega) (by omega)]
theorem cmpW_lt {p : Plg} {w a : Int} (hp : rightB p.who p.asset = true) (h : rightB w a = true) : cmpW p w a < 0 ↔ p.key < w * 8 + a := by
  rw [cmpW_small hp h]
  rw [rightB_iff] at hp h
  unfold Plg.key
  split <;> omega
theorem cmpW_eq {p : Plg} {w a : Int} (hp : rightB p.who p.asset = true) (h : rightB w a = true) : cmpW p w a = 0 ↔ p.key = w * 8 + a := by
  rw [cmpW_small hp h]
  rw [rightB_iff] at hp h
  unfold Plg.key
  split <;> omega
theorem key_inj {p : Plg} {w a : Int} (hp : rightB p.who p.asset = true) (h : rightB w a = true) : p.key = w * 8 + a ↔ p.who = w ∧ p.asset = a := by
  rw [rightB_iff] at hp h
  unfold Plg.key
  omega
def okAt (ps : List Plg) (i : Nat) : Bool :=
  match ps[i]? with
  | none => true
  | some p => rightB p.who p.asset && decide (1 ≤ p.units) && decide (p.units ≤ 1099511627776) && (match i with
    | 0 => true
    | j + 1 => match ps[j]? with
      | some q => decide (cmpW q p.who p.asset < 0)
      | none => true)
def checkB (ps : List Plg) : Bool := (List.range ps.length).all (okAt ps)
/-- in order, and each right -/
def Good (ps : List Plg) : Prop := (∀ p ∈ ps, p.ok) ∧ ps.Pairwise (fun p q => p.key < q.key)
theorem check_good {ps : List Plg} : checkB ps = true ↔ Good ps := by
  have hok : ∀ i (h : i < ps.length), okAt ps i = true ↔ ps[i].ok ∧ ∀ j, (hj : j + 1 = i) → cmpW (ps[j]'(by omega)) ps[i].who ps[i].asset < 0 := by
    intro i h
    unfold okAt
    rw [List.getElem?_eq_getElem h]
    cases i with
    | zero => simp [Plg.ok, and_assoc]
    | succ i =>
      simp only [List.getElem?_eq_getElem (show i < ps.length by omega), Bool.and_eq_true, decide_eq_true_eq, Plg.ok]
      constructor
      · rintro ⟨⟨⟨h1, h2⟩, h3⟩, h4⟩
        exact ⟨⟨h1, h2, h3⟩, fun j hj => by obtain rfl : j = i := by omega
                                            exact h4⟩
      · rintro ⟨⟨h1, h2, h3⟩, h4⟩
        exact ⟨⟨⟨h1, h2⟩, h3⟩, h4 i rfl⟩
  constructor
  · intro hc
    have hall : ∀ i (h : i < ps.length), okAt ps i = true := by
      intro i h
      exact List.all_eq_true.1 hc i (List.mem_range.2 h)
    have hp : ∀ i (h : i < ps.length), ps[i].ok := fun i h => ((hok i h).1 (hall i h)).1
    refine ⟨?_, ?_⟩
    · intro p hm
      obtain ⟨i, hi, rfl⟩ := List.mem_iff_getElem.1 hm
      exact hp i hi
    · rw [List.pairwise_iff_getElem]
      have key : ∀ d i (hj : i + d + 1 < ps.length), ps[i].key < ps[i + d + 1].key := by
        intro d
        induction d with
        | zero =>
          intro i hj
          have h1 := ((hok (i + 1) hj).1 (hall _ hj)).2 i rfl
          rw [cmpW_lt (hp i (by omega)).1 (hp (i + 1) hj).1] at h1
          exact h1
        | succ d ih =>
          intro i hj
          have h0 := ih i (by omega)
          have h1 := ((hok (i + d + 1 + 1) hj).1 (hall _ hj)).2 (i + d + 1) rfl
          rw [cmpW_lt (hp (i + d + 1) (by omega)).1 (hp (i + d + 1 + 1) hj).1] at h1
          exact Int.lt_trans h0 h1
      intro i j hi hj hij
      have := key (j - i - 1) i (by omega)
      have e : i + (j - i - 1) + 1 = j := by omega
      simpa only [e] using this
  · rintro ⟨h1, h2⟩
    rw [List.pairwise_iff_getElem] at h2
    refine List.all_eq_true.2 fun i hi => ?_
    have hi := List.mem_range.1 hi
    rw [hok i hi]
    refine ⟨h1 _ (List.getElem_mem hi), ?_⟩
    intro j hj
    have hjl : j < ps.length := by omega
    rw [cmpW_lt (h1 _ (List.getElem_mem hjl)).1 (h1 _ (List.getElem_mem hi)).1]
    exact h2 j i hjl hi (by omega)
/-- how many come before the key -/
def pos (K : Int) : List Plg → Nat
  | [] => 0
  | p :: r => if p.key < K then pos K r + 1 else 0
def isAt (K : Int) : List Plg → Bool
  | [] => false
  | p :: r => if p.key < K then isAt K r else decide (p.key = K)
theorem pos_le (K : Int) : ∀ ps : List Plg, pos K ps ≤ ps.length
  | [] => by simp [pos]
  | p :: r => by have := pos_le K r; simp only [pos]; split <;> simp <;> omega
theorem pos_lt {K : Int} : ∀ {ps : List Plg} {i : Nat} (h : i < pos K ps) (hl : i < ps.length), ps[i].key < K
  | [], i, h, hl => by simp at hl
  | p :: r, i, h, hl => by
    simp only [pos] at h
    split at h
    · cases i with
      | zero => assumption
      | succ i => exact pos_lt (ps := r) (by omega) (by simpa using hl)
    · omega
theorem pos_ge {K : Int} : ∀ {ps : List Plg} (hg : ps.Pairwise (fun p q => p.key < q.key)) {i : Nat} (h : pos K ps ≤ i) (hl : i < ps.length), K ≤ ps[i].key
  | [], _, i, h, hl => by simp at hl
  | p :: r, hg, i, h, hl => by
    rw [List.pairwise_cons] at hg
    simp only [pos] at h
    split at h
    · cases i with
      | zero => omega
      | succ i => exact pos_ge (ps := r) hg.2 (by omega) (by simpa using hl)
    · cases i with
      | zero => rename_i hh; simpa using hh
      | succ i =>
        rename_i hh
        have hl' : i < r.length := by simpa using hl
        have := hg.1 r[i] (List.getElem_mem hl')
        simp only [List.getElem_cons_succ]; omega
theorem pos_unique {K : Int} {ps : List Plg} (hg : ps.Pairwise (fun p q => p.key < q.key)) {m : Nat} (hm : m ≤ ps.length) (h1 : ∀ i (hl : i < ps.length), i < m → ps[i].key < K) (h2 : ∀ i (hl : i < ps.length), m ≤ i → K ≤ ps[i].key) : m = pos K ps := by
  have hp := pos_le K ps
  rcases Nat.lt_trichotomy m (pos K ps) with h | h | h
  · have a := pos_lt h (by omega)
    have b := h2 m (by omega) (Nat.le_refl _)
    omega
  · exact h
  · have a := h1 (pos K ps) (by omega) h
    have b := pos_ge hg (Nat.le_refl (pos K ps)) (by omega)
    omega
theorem isAt_eq {K : Int} : ∀ {ps : List Plg}, isAt K ps = match ps[pos K ps]? with | some p => decide (p.key = K) | none => false
  | [] => rfl
  | p :: r => by
    simp only [isAt, pos]
    split
    · rw [List.getElem?_cons_succ]; exact isAt_eq
    · rfl
/-- the list with so many units under the key -/
def chg (w a n : Int) : List Plg → List Plg
  | [] => if n > 0 then [⟨w, a, n⟩] else []
  | p :: r => if p.key < w * 8 + a then p :: chg w a n r else if p.key = w * 8 + a then (if n > 0 then ⟨w, a, n⟩ :: r else r) else (if n > 0 then ⟨w, a, n⟩ :: p :: r else p :: r)
def unitsL (w a : Int) : List Plg → Int
  | [] => 0
  | p :: r => if p.who = w ∧ p.asset = a then p.units else unitsL w a r
theorem chg_eq (w a n : Int) : ∀ ps : List Plg, chg w a n ps = ps.take (pos (w * 8 + a) ps) ++ (if n > 0 then [⟨w, a, n⟩] else []) ++ ps.drop (pos (w * 8 + a) ps + if isAt (w * 8 + a) ps then 1 else 0)
  | [] => by simp [chg, pos, isAt]
  | p :: r => by
    have ih := chg_eq w a n r
    simp only [chg, pos, isAt]
    by_cases h : p.key < w * 8 + a
    · simp only [if_pos h, ih]
      simp only [List.take_succ_cons, List.cons_append]
      congr 2
      have : pos (w * 8 + a) r + 1 + (if isAt (w * 8 + a) r = true then 1 else 0) = (pos (w * 8 + a) r + if isAt (w * 8 + a) r = true then 1 else 0) + 1 := by omega
      rw [this, List.drop_succ_cons]
    · simp only [if_neg h]
      by_cases h2 : p.key = w * 8 + a
      · simp only [if_pos h2]; by_cases hn : n > 0 <;> simp [h2, hn]
      · simp only [if_neg h2]; by_cases hn : n > 0 <;> simp [h2, hn]
theorem chg_key {w a n : Int} : ∀ {ps : List Plg} {q : Plg}, q ∈ chg w a n ps → q ∈ ps ∨ (q = ⟨w, a, n⟩ ∧ n > 0)
  | [], q, h => by
    simp only [chg] at h
    split at h
    · simp at h; exact .inr ⟨h, by assumption⟩
    · simp at h
  | p :: r, q, h => by
    simp only [chg] at h
    split at h
    · rcases List.mem_cons.1 h with h | h
      · exact .inl (by simp [h])
      · rcases chg_key h with h | h
        · exact .inl (by simp [h])
        · exact .inr h
    · split at h
      · split at h
        · rcases List.mem_cons.1 h with h | h
          · exact .inr ⟨h, by assumption⟩
          · exact .inl (by simp [h])
        · exact .inl (by simp [h])
      · split at h
        · rcases List.mem_cons.1 h with h | h
          · exact .inr ⟨h, by assumption⟩
          · exact .inl h
        · exact .inl h
theorem chg_good {w a n : Int} (hr : rightB w a = true) (hn : n ≤ 1099511627776) {ps : List Plg} (hg : Good ps) : Good (chg w a n ps) := by
  refine ⟨?_, ?_⟩
  · intro q hq
    rcases chg_key hq with h | ⟨rfl, h⟩
    · exact hg.1 q h
    · exact ⟨hr, by show 1 ≤ n; omega, hn⟩
  · have hp := hg.2
    clear hg
    induction ps with
    | nil => simp only [chg]; split <;> simp
    | cons p r ih =>
      rw [List.pairwise_cons] at hp
      simp only [chg]
      split
      · rename_i h
        rw [List.pairwise_cons]
        refine ⟨?_, ih hp.2⟩
        intro q hq
        rcases chg_key hq with h2 | ⟨rfl, _⟩
        · exact hp.1 q h2
        · exact h
      · split
        · split
          · rename_i h1 h2 _
            rw [List.pairwise_cons]
            refine ⟨?_, hp.2⟩
            intro q hq
            have := hp.1 q hq
            show w * 8 + a < q.key
            omega
          · exact hp.2
        · split
          · rename_i h1 h2 _
            rw [List.pairwise_cons, List.pairwise_cons]
            refine ⟨?_, hp⟩
            intro q hq
            show w * 8 + a < q.key
            rcases List.mem_cons.1 hq with rfl | hq
            · omega
            · have := hp.1 q hq; omega
          · rw [List.pairwise_cons]; exact hp
theorem units_none {w a : Int} : ∀ {ps : List Plg}, (∀ p ∈ ps, ¬ (p.who = w ∧ p.asset = a)) → unitsL w a ps = 0
  | [], _ => rfl
  | p :: r, h => by simp only [unitsL, if_neg (h p (by simp))]; exact units_none fun q hq => h q (by simp [hq])
theorem units_chg {w a n : Int} (hr : rightB w a = true) (hn : 0 ≤ n) : ∀ {ps : List Plg}, Good ps → unitsL w a (chg w a n ps) = n
  | [], _ => by
    simp only [chg]; split
    · simp [unitsL]
    · simp [unitsL]; omega
  | p :: r, hg => by
    have hp := (hg.1 p (by simp)).1
    have hgr : Good r := ⟨fun q hq => hg.1 q (by simp [hq]), (List.pairwise_cons.1 hg.2).2⟩
    have hlt := (List.pairwise_cons.1 hg.2).1
    have hkey := key_inj hp hr
    have hrest : w * 8 + a ≤ p.key → ∀ q ∈ r, ¬ (q.who = w ∧ q.asset = a) := by
      intro hle q hq hh
      have h1 := (key_inj (hg.1 q (by simp [hq])).1 hr).2 hh
      have h2 := hlt q hq
      omega
    simp only [chg]
    split
    · rename_i h
      have : ¬ (p.who = w ∧ p.asset = a) := fun hh => by have := hkey.2 hh; omega
      simp only [unitsL, if_neg this]
      exact units_chg hr hn hgr
    · split
      · split
        · simp [unitsL]
        · rw [units_none (hrest (by omega))]; omega
      · rename_i h1 h2
        have : ¬ (p.who = w ∧ p.asset = a) := fun hh => h2 (hkey.2 hh)
        split
        · simp [unitsL]
        · simp only [unitsL, if_neg this]
          rw [units_none (hrest (by omega))]; omega
theorem units_other {w a n w' a' : Int} (hne : ¬ (w' = w ∧ a' = a)) (hr : rightB w a = true) : ∀ {ps : List Plg}, Good ps → unitsL w' a' (chg w a n ps) = unitsL w' a' ps
  | [], _ => by
    have : ¬ (w = w' ∧ a = a') := fun h => hne ⟨h.1.symm, h.2.symm⟩
    simp only [chg]; split
    · simp [unitsL, this]
    · rfl
  | p :: r, hg => by
    have hp := (hg.1 p (by simp)).1
    have hgr : Good r := ⟨fun q hq => hg.1 q (by simp [hq]), (List.pairwise_cons.1 hg.2).2⟩
    have hh : ¬ (w = w' ∧ a = a') := fun h => hne ⟨h.1.symm, h.2.symm⟩
    have hkey := key_inj hp hr
    simp only [chg]
    split
    · simp only [unitsL, units_other hne hr hgr]
    · split
      · rename_i h1 h2
        have e := hkey.1 h2
        have : ¬ (p.who = w' ∧ p.asset = a') := fun h => hne ⟨by rw [← h.1, e.1], by rw [← h.2, e.2]⟩
        split
        · simp [unitsL, hh, this]
        · simp [unitsL, this]
      · split
        · simp [unitsL, hh]
        · rfl
/-- back again -/
theorem chg_back {w a n : Int} (hr : rightB w a = true) : ∀ {ps : List Plg}, Good ps → chg w a (unitsL w a ps) (chg w a n ps) = ps
  | [], _ => by
    simp only [unitsL, chg]
    split
    · simp [chg, Plg.key]
    · simp [chg]
  | p :: r, hg => by
    have hp := (hg.1 p (by simp)).1
    have hpo := (hg.1 p (by simp)).2
    have hgr : Good r := ⟨fun q hq => hg.1 q (by simp [hq]), (List.pairwise_cons.1 hg.2).2⟩
    have hlt := (List.pairwise_cons.1 hg.2).1
    have hkey := key_inj hp hr
    have hrest : w * 8 + a ≤ p.key → ∀ q ∈ r, ¬ (q.who = w ∧ q.asset = a) := by
      intro hle q hq hh
      have h1 := (key_inj (hg.1 q (by simp [hq])).1 hr).2 hh
      have h2 := hlt q hq
      omega
    have hself : ∀ x, Plg.key ⟨w, a, x⟩ = w * 8 + a := fun _ => rfl
    by_cases h : p.key < w * 8 + a
    · have hn : ¬ (p.who = w ∧ p.asset = a) := fun hh => by have := hkey.2 hh; omega
      simp only [chg, if_pos h, unitsL, if_neg hn]
      rw [chg_back hr hgr]
    · by_cases h2 : p.key = w * 8 + a
      · have e := hkey.1 h2
        have hpe : (⟨w, a, p.units⟩ : Plg) = p := by cases p; simp_all
        simp only [chg, if_neg h, if_pos h2, unitsL, if_pos e]
        split
        · simp only [chg, hself, Int.lt_irrefl, if_false, if_true]
          rw [if_pos (by omega), hpe]
        · cases r with
          | nil => simp only [chg]; rw [if_pos (by omega), hpe]
          | cons q r =>
            have hq := hlt q (by simp)
            have a1 : ¬ q.key < w * 8 + a := by omega
            have a2 : ¬ q.key = w * 8 + a := by omega
            simp only [chg, if_neg a1, if_neg a2]
            rw [if_pos (by omega), hpe]
      · have hn : ¬ (p.who = w ∧ p.asset = a) := fun hh => h2 (hkey.2 hh)
        have hu : unitsL w a r = 0 := units_none (hrest (by omega))
        simp only [chg, if_neg h, if_neg h2, unitsL, if_neg hn, hu]
        split
        · simp only [chg, hself, Int.lt_irrefl, if_false, if_true, gt_iff_lt]
        · simp only [chg, if_neg h, if_neg h2, gt_iff_lt, Int.lt_irrefl, if_false]
end Go.Proofs.Ytbllopdcbkeadaa
set_option linter.unusedSimpArgs false
set_option linter.unusedVariables false
namespace Go.Proofs.Ytbllopdcbkeadaa
open Go.Abs
def Plg.cells (p : Plg) : List D := [.int .i64 p.who, .int .i64 p.asset, .int .i64 p.units]
def pl (ps : List Plg) : List (List D) := ps.map Plg.cells
@[go_sem] theorem pl_len (ps : List Plg) : (pl ps).length = ps.length := by simp [pl]
theorem pl_at (ps : List Plg) {i : Nat} (h : i < ps.length) : (pl ps).getD i [] = [.int .i64 ps[i].who, .int .i64 ps[i].asset, .int .i64 ps[i].units] := by simp [pl, h, Plg.cells]
theorem rightB_spec (w a : Int) : Abs.Spec Try.prog 24 [] [.int .i64 w, .int .i64 a] [] (.bool (rightB w a)) := by
  refine Abs.Spec.go (n := 19) (np := 2) (rs := [.tmp 4]) mixed Try.func24 rfl rfl rfl rfl rfl (by simp) (by simp) ?_
  simp only [go_sem, Nat.reduceAdd, Nat.reduceSub, Nat.reduceMul, Nat.reducePow, Nat.reduceEqDiff, Nat.reduceLT, Nat.reduceLeDiff, Nat.reduceBEq, Nat.reduceBNe, Int.reduceToNat, Int.reduceLT, Int.reduceLE, Int.reduceEq, Int.reduceBNe, Int.reduceBEq, Int.reduceAdd, Int.reduceSub, Int.reduceMul, Int.reduceNeg, ↓reduceIte]
  repeat' (with_reducible first
      | refine And.intro ?_ ?_
      | exact DrawN.mk (by kernel_rfl)
      | exact OkN.mk (by kernel_rfl)
      | refine CallN.pure (by assumption) ?_
      | refine GuardK.splitDN (fun h => ?_) (fun h => ?_)
      | refine GuardK.splitD (fun h => ?_) (fun h => ?_)
      | refine CondE.splitDN (fun h => ?_) (fun h => ?_)
      | refine CondE.splitD (fun h => ?_) (fun h => ?_)
      | refine GuardK.splitN (fun h => ?_) (fun h => ?_)
      | refine GuardK.split (fun h => ?_) (fun h => ?_)
      | refine CondE.splitN (fun h => ?_) (fun h => ?_)
      | refine CondE.split (fun h => ?_) (fun h => ?_)
      | refine WeakK.id ?_
      | refine RoundK.next (by omega) ?_ ?_
      | exact trivial
      | simp only [*, go_sem, Nat.reduceAdd, Nat.reduceSub, Nat.reduceMul, Nat.reducePow, Nat.reduceEqDiff, Nat.reduceLT, Nat.reduceLeDiff, Nat.reduceBEq, Nat.reduceBNe, Int.reduceToNat, Int.reduceLT, Int.reduceLE, Int.reduceEq, Int.reduceBNe, Int.reduceBEq, Int.reduceAdd, Int.reduceSub, Int.reduceMul, Int.reduceNeg, ↓reduceIte])
  all_goals (simp only [rightB]; simp <;> omega)
theorem compare_spec (p : Plg) (w a : Int) : Abs.Spec Try.prog 25 [] [.agg [.int .i64 p.who, .int .i64 p.asset, .int .i64 p.units], .int .i64 w, .int .i64 a] [] (.int .i64 (cmpW p w a)) := by
  refine Abs.Spec.go (n := 19) (np := 3) (rs := [.tmp 6]) mixed Try.func25 rfl rfl rfl rfl rfl (by simp) (by simp) ?_
  simp only [go_sem, Nat.reduceAdd, Nat.reduceSub, Nat.reduceMul, Nat.reducePow, Nat.reduceEqDiff, Nat.reduceLT, Nat.reduceLeDiff, Nat.reduceBEq, Nat.reduceBNe, Int.reduceToNat, Int.reduceLT, Int.reduceLE, Int.reduceEq, Int.reduceBNe, Int.reduceBEq, Int.reduceAdd, Int.reduceSub, Int.reduceMul, Int.reduceNeg, ↓reduceIte]
  repeat' (with_reducible first
      | refine And.intro ?_ ?_
      | exact DrawN.mk (by kernel_rfl)
      | exact OkN.mk (by kernel_rfl)
      | refine CallN.pure (by assumption) ?_
      | refine GuardK.splitDN (fun h => ?_) (fun h => ?_)
      | refine GuardK.splitD (fun h => ?_) (fun h => ?_)
      | refine CondE.splitDN (fun h => ?_) (fun h => ?_)
      | refine CondE.splitD (fun h => ?_) (fun h => ?_)
      | refine GuardK.splitN (fun h => ?_) (fun h => ?_)
      | refine GuardK.split (fun h => ?_) (fun h => ?_)
      | refine CondE.splitN (fun h => ?_) (fun h => ?_)
      | refine CondE.split (fun h => ?_) (fun h => ?_)
      | refine WeakK.id ?_
      | refine RoundK.next (by omega) ?_ ?_
      | exact trivial
      | simp only [*, go_sem, Nat.reduceAdd, Nat.reduceSub, Nat.reduceMul, Nat.reducePow, Nat.reduceEqDiff, Nat.reduceLT, Nat.reduceLeDiff, Nat.reduceBEq, Nat.reduceBNe, Int.reduceToNat, Int.reduceLT, Int.reduceLE, Int.reduceEq, Int.reduceBNe, Int.reduceBEq, Int.reduceAdd, Int.reduceSub, Int.reduceMul, Int.reduceNeg, ↓reduceIte])
  all_goals (simp only [cmpW]; simp_all)
theorem okAt_eq {ps : List Plg} {i : Nat} (h : i < ps.length) : okAt ps i = (rightB ps[i].who ps[i].asset && decide (1 ≤ ps[i].units) && decide (ps[i].units ≤ 1099511627776) && (decide (i = 0) || decide (cmpW (ps.getD (i - 1) ⟨0, 0, 0⟩) ps[i].who ps[i].asset < 0))) := by
  unfold okAt
  rw [List.getElem?_eq_getElem h]
  cases i with
  | zero => simp
  | succ i =>
    have h' : i < ps.length := by omega
    simp [List.getElem?_eq_getElem h', List.getD_eq_getElem?_getD]
theorem checkB_no {ps : List Plg} {i : Nat} (h : i < ps.length) (hn : okAt ps i = false) : checkB ps = false := by
  cases hc : checkB ps
  · rfl
  · rw [List.all_eq_true.1 hc i (List.mem_range.2 h)] at hn; cases hn
theorem checkB_yes {ps : List Plg} (h : ∀ i < ps.length, okAt ps i = true) : checkB ps = true := List.all_eq_true.2 fun i hi => h i (List.mem_range.1 hi)
theorem plg_check (ps : List Plg) (hl : ps.length < 2 ^ 62) : Abs.Spec Try.prog 7 [] [.sl 3 (pl ps)] [] (.int .i64 (if checkB ps then 0 else 14)) := by
  refine Abs.Spec.go (n := 46) (np := 1) (rs := [.tmp 2]) mixed Try.func7 rfl rfl rfl rfl rfl (by simp) (by simp) ?_
  simp only [go_sem, Nat.reduceAdd, Nat.reduceSub, Nat.reduceMul, Nat.reducePow, Nat.reduceEqDiff, Nat.reduceLT, Nat.reduceLeDiff, Nat.reduceBEq, Nat.reduceBNe, Int.reduceToNat, Int.reduceLT, Int.reduceLE, Int.reduceEq, Int.reduceBNe, Int.reduceBEq, Int.reduceAdd, Int.reduceSub, Int.reduceMul, Int.reduceNeg, ↓reduceIte]
  refine LoopK.count ps.length [0, 5, 6] [112] (fun i => [(7, .int .i64 i)]) (fun i => []) (fun i => ∀ j < i, okAt ps j = true) (by simp only [go_sem, Nat.reduceAdd, Nat.reduceSub, Nat.reduceMul, Nat.reducePow, Nat.reduceEqDiff, Nat.reduceLT, Nat.reduceLeDiff, Nat.reduceBEq, Nat.reduceBNe, Int.reduceToNat, Int.reduceLT, Int.reduceLE, Int.reduceEq, Int.reduceBNe, Int.reduceBEq, Int.reduceAdd, Int.reduceSub, Int.reduceMul, Int.reduceNeg, ↓reduceIte] <;> exact rfl) (by simp only [go_sem, Nat.reduceAdd, Nat.reduceSub, Nat.reduceMul, Nat.reducePow, Nat.reduceEqDiff, Nat.reduceLT, Nat.reduceLeDiff, Nat.reduceBEq, Nat.reduceBNe, Int.reduceToNat, Int.reduceLT, Int.reduceLE, Int.reduceEq, Int.reduceBNe, Int.reduceBEq, Int.reduceAdd, Int.reduceSub, Int.reduceMul, Int.reduceNeg, ↓reduceIte] <;> exact rfl) (by simp) ?_ ?_
  · simp only [go_sem, Nat.reduceAdd, Nat.reduceSub, Nat.reduceMul, Nat.reducePow, Nat.reduceEqDiff, Nat.reduceLT, Nat.reduceLeDiff, Nat.reduceBEq, Nat.reduceBNe, Int.reduceToNat, Int.reduceLT, Int.reduceLE, Int.reduceEq, Int.reduceBNe, Int.reduceBEq, Int.reduceAdd, Int.reduceSub, Int.reduceMul, Int.reduceNeg, ↓reduceIte] <;> simp
  · intro i hi hI
    simp only [go_sem, Nat.reduceAdd, Nat.reduceSub, Nat.reduceMul, Nat.reducePow, Nat.reduceEqDiff, Nat.reduceLT, Nat.reduceLeDiff, Nat.reduceBEq, Nat.reduceBNe, Int.reduceToNat, Int.reduceLT, Int.reduceLE, Int.reduceEq, Int.reduceBNe, Int.reduceBEq, Int.reduceAdd, Int.reduceSub, Int.reduceMul, Int.reduceNeg, ↓reduceIte]
    refine CondE.splitD (fun h => ?_) (fun h => ?_)
    · have hi' : i < ps.length := by omega
      have hw : IntKind.wrap .i64 ((i : Int) + 1) = ((i + 1 : Nat) : Int) := by rw [wr64 (by omega) (by omega)]; omega
      have hr := rightB_spec ps[i].who ps[i].asset
      have hk := okAt_eq hi'
      have e0 : okAt ps i = true → ∀ k < i + 1, okAt ps k = true := fun h0 k hk => by
        rcases Nat.lt_or_ge k i with h | h
        · exact hI k h
        · obtain rfl : k = i := by omega
          exact h0
      have e1 : okAt ps i = false → checkB ps = false := checkB_no hi'
      rcases Nat.eq_zero_or_pos i with rfl | hpos
      · simp only [go_sem, Nat.reduceAdd, Nat.reduceSub, Nat.reduceMul, Nat.reducePow, Nat.reduceEqDiff, Nat.reduceLT, Nat.reduceLeDiff, Nat.reduceBEq, Nat.reduceBNe, Int.reduceToNat, Int.reduceLT, Int.reduceLE, Int.reduceEq, Int.reduceBNe, Int.reduceBEq, Int.reduceAdd, Int.reduceSub, Int.reduceMul, Int.reduceNeg, ↓reduceIte, pl_at ps hi']
        repeat' (with_reducible first
            | refine And.intro ?_ ?_
            | exact DrawN.mk (by kernel_rfl)
            | exact OkN.mk (by kernel_rfl)
            | refine CallN.pure (by assumption) ?_
            | refine CallN.pure (hr) ?_
            | refine GuardK.splitDN (fun h => ?_) (fun h => ?_)
            | refine GuardK.splitD (fun h => ?_) (fun h => ?_)
            | refine CondE.splitDN (fun h => ?_) (fun h => ?_)
            | refine CondE.splitD (fun h => ?_) (fun h => ?_)
            | refine GuardK.splitN (fun h => ?_) (fun h => ?_)
            | refine GuardK.split (fun h => ?_) (fun h => ?_)
            | refine CondE.splitN (fun h => ?_) (fun h => ?_)
            | refine CondE.split (fun h => ?_) (fun h => ?_)
            | refine WeakK.id ?_
            | refine RoundK.next (by omega) ?_ ?_
            | exact trivial
            | simp only [*, go_sem, Nat.reduceAdd, Nat.reduceSub, Nat.reduceMul, Nat.reducePow, Nat.reduceEqDiff, Nat.reduceLT, Nat.reduceLeDiff, Nat.reduceBEq, Nat.reduceBNe, Int.reduceToNat, Int.reduceLT, Int.reduceLE, Int.reduceEq, Int.reduceBNe, Int.reduceBEq, Int.reduceAdd, Int.reduceSub, Int.reduceMul, Int.reduceNeg, ↓reduceIte])
        all_goals first
          | omega
          | (refine e0 ?_; rw [hk]; simp_all <;> omega)
          | rfl
          | (rw [e1 ?_]
             · rfl
             · cases hh : okAt ps 0
               · rfl
               · exfalso; rw [hk] at hh; simp at hh; first | omega | (simp_all; done) | (simp_all; omega))
      · obtain ⟨j, rfl⟩ : ∃ j, i = j + 1 := ⟨i - 1, by omega⟩
        have hj : j < ps.length := by omega
        have hw1 : IntKind.wrap .i64 (((j + 1 : Nat) : Int) - 1) = (j : Int) := by rw [wr64 (by omega) (by omega)]; omega
        have hcmp := compare_spec ps[j] ps[j + 1].who ps[j + 1].asset
        have ej : ps.getD (j + 1 - 1) ⟨0, 0, 0⟩ = ps[j] := by simp [hj]
        rw [ej] at hk
        simp only [go_sem, Nat.reduceAdd, Nat.reduceSub, Nat.reduceMul, Nat.reducePow, Nat.reduceEqDiff, Nat.reduceLT, Nat.reduceLeDiff, Nat.reduceBEq, Nat.reduceBNe, Int.reduceToNat, Int.reduceLT, Int.reduceLE, Int.reduceEq, Int.reduceBNe, Int.reduceBEq, Int.reduceAdd, Int.reduceSub, Int.reduceMul, Int.reduceNeg, ↓reduceIte, pl_at ps hi']
        repeat' (with_reducible first
            | refine And.intro ?_ ?_
            | exact DrawN.mk (by kernel_rfl)
            | exact OkN.mk (by kernel_rfl)
            | refine CallN.pure (by assumption) ?_
            | refine CallN.pure (hr) ?_
            | refine CallN.pure (hcmp) ?_
            | refine GuardK.splitDN (fun h => ?_) (fun h => ?_)
            | refine GuardK.splitD (fun h => ?_) (fun h => ?_)
            | refine CondE.splitDN (fun h => ?_) (fun h => ?_)
            | refine CondE.splitD (fun h => ?_) (fun h => ?_)
            | refine GuardK.splitN (fun h => ?_) (fun h => ?_)
            | refine GuardK.split (fun h => ?_) (fun h => ?_)
            | refine CondE.splitN (fun h => ?_) (fun h => ?_)
            | refine CondE.split (fun h => ?_) (fun h => ?_)
            | refine WeakK.id ?_
            | refine RoundK.next (by omega) ?_ ?_
            | exact trivial
            | simp only [*, go_sem, Nat.reduceAdd, Nat.reduceSub, Nat.reduceMul, Nat.reducePow, Nat.reduceEqDiff, Nat.reduceLT, Nat.reduceLeDiff, Nat.reduceBEq, Nat.reduceBNe, Int.reduceToNat, Int.reduceLT, Int.reduceLE, Int.reduceEq, Int.reduceBNe, Int.reduceBEq, Int.reduceAdd, Int.reduceSub, Int.reduceMul, Int.reduceNeg, ↓reduceIte, pl_at ps hj])
        all_goals first
          | omega
          | (refine e0 ?_; rw [hk]; simp_all <;> omega)
          | rfl
          | (rw [e1 ?_]
             · rfl
             · cases hh : okAt ps (j + 1)
               · rfl
               · exfalso; rw [hk] at hh; simp at hh; first | omega | (simp_all; done) | (simp_all; omega))
    · obtain rfl : i = ps.length := by omega
      have hc := checkB_yes hI
      repeat' (with_reducible first
          | refine And.intro ?_ ?_
          | exact DrawN.mk (by kernel_rfl)
          | exact OkN.mk (by kernel_rfl)
          | refine CallN.pure (by assumption) ?_
          | refine GuardK.splitDN (fun h => ?_) (fun h => ?_)
          | refine GuardK.splitD (fun h => ?_) (fun h => ?_)
          | refine CondE.splitDN (fun h => ?_) (fun h => ?_)
          | refine CondE.splitD (fun h => ?_) (fun h => ?_)
          | refine GuardK.splitN (fun h => ?_) (fun h => ?_)
          | refine GuardK.split (fun h => ?_) (fun h => ?_)
          | refine CondE.splitN (fun h => ?_) (fun h => ?_)
          | refine CondE.split (fun h => ?_) (fun h => ?_)
          | refine WeakK.id ?_
          | refine RoundK.next (by omega) ?_ ?_
          | exact trivial
          | simp only [*, go_sem, Nat.reduceAdd, Nat.reduceSub, Nat.reduceMul, Nat.reducePow, Nat.reduceEqDiff, Nat.reduceLT, Nat.reduceLeDiff, Nat.reduceBEq, Nat.reduceBNe, Int.reduceToNat, Int.reduceLT, Int.reduceLE, Int.reduceEq, Int.reduceBNe, Int.reduceBEq, Int.reduceAdd, Int.reduceSub, Int.reduceMul, Int.reduceNeg, ↓reduceIte])
theorem getD_pl {ps : List Plg} {i : Nat} (h : i < ps.length) : ps.drop i = ps[i] :: ps.drop (i + 1) := (List.drop_eq_getElem_cons h)
theorem units_spec (w a : Int) (ps : List Plg) (hl : ps.length < 2 ^ 62) : Abs.Spec Try.prog 10 [] [.int .i64 w, .int .i64 a, .sl 3 (pl ps)] [] (.int .i64 (unitsL w a ps)) := by
  refine Abs.Spec.go (n := 28) (np := 3) (rs := [.tmp 6]) mixed Try.func10 rfl rfl rfl rfl rfl (by simp) (by simp) ?_
  simp only [go_sem, Nat.reduceAdd, Nat.reduceSub, Nat.reduceMul, Nat.reducePow, Nat.reduceEqDiff, Nat.reduceLT, Nat.reduceLeDiff, Nat.reduceBEq, Nat.reduceBNe, Int.reduceToNat, Int.reduceLT, Int.reduceLE, Int.reduceEq, Int.reduceBNe, Int.reduceBEq, Int.reduceAdd, Int.reduceSub, Int.reduceMul, Int.reduceNeg, ↓reduceIte]
  refine LoopK.count ps.length [0, 1, 9, 10] [176] (fun i => [(11, .int .i64 i)]) (fun i => []) (fun i => unitsL w a (ps.drop i) = unitsL w a ps) (by simp only [go_sem, Nat.reduceAdd, Nat.reduceSub, Nat.reduceMul, Nat.reducePow, Nat.reduceEqDiff, Nat.reduceLT, Nat.reduceLeDiff, Nat.reduceBEq, Nat.reduceBNe, Int.reduceToNat, Int.reduceLT, Int.reduceLE, Int.reduceEq, Int.reduceBNe, Int.reduceBEq, Int.reduceAdd, Int.reduceSub, Int.reduceMul, Int.reduceNeg, ↓reduceIte] <;> exact rfl) (by simp only [go_sem, Nat.reduceAdd, Nat.reduceSub, Nat.reduceMul, Nat.reducePow, Nat.reduceEqDiff, Nat.reduceLT, Nat.reduceLeDiff, Nat.reduceBEq, Nat.reduceBNe, Int.reduceToNat, Int.reduceLT, Int.reduceLE, Int.reduceEq, Int.reduceBNe, Int.reduceBEq, Int.reduceAdd, Int.reduceSub, Int.reduceMul, Int.reduceNeg, ↓reduceIte] <;> exact rfl) (by simp) ?_ ?_
  · simp only [go_sem, Nat.reduceAdd, Nat.reduceSub, Nat.reduceMul, Nat.reducePow, Nat.reduceEqDiff, Nat.reduceLT, Nat.reduceLeDiff, Nat.reduceBEq, Nat.reduceBNe, Int.reduceToNat, Int.reduceLT, Int.reduceLE, Int.reduceEq, Int.reduceBNe, Int.reduceBEq, Int.reduceAdd, Int.reduceSub, Int.reduceMul, Int.reduceNeg, ↓reduceIte] <;> simp
  · intro i hi hI
    simp only [go_sem, Nat.reduceAdd, Nat.reduceSub, Nat.reduceMul, Nat.reducePow, Nat.reduceEqDiff, Nat.reduceLT, Nat.reduceLeDiff, Nat.reduceBEq, Nat.reduceBNe, Int.reduceToNat, Int.reduceLT, Int.reduceLE, Int.reduceEq, Int.reduceBNe, Int.reduceBEq, Int.reduceAdd, Int.reduceSub, Int.reduceMul, Int.reduceNeg, ↓reduceIte]
    refine CondE.splitD (fun h => ?_) (fun h => ?_)
    · have hi' : i < ps.length := by omega
      have hw : IntKind.wrap .i64 ((i : Int) + 1) = ((i + 1 : Nat) : Int) := by rw [wr64 (by omega) (by omega)]; omega
      rw [getD_pl hi'] at hI
      simp only [unitsL] at hI
      simp only [go_sem, Nat.reduceAdd, Nat.reduceSub, Nat.reduceMul, Nat.reducePow, Nat.reduceEqDiff, Nat.reduceLT, Nat.reduceLeDiff, Nat.reduceBEq, Nat.reduceBNe, Int.reduceToNat, Int.reduceLT, Int.reduceLE, Int.reduceEq, Int.reduceBNe, Int.reduceBEq, Int.reduceAdd, Int.reduceSub, Int.reduceMul, Int.reduceNeg, ↓reduceIte, pl_at ps hi']
      repeat' (with_reducible first
          | refine And.intro ?_ ?_
          | exact DrawN.mk (by kernel_rfl)
          | exact OkN.mk (by kernel_rfl)
          | refine CallN.pure (by assumption) ?_
          | refine GuardK.splitDN (fun h => ?_) (fun h => ?_)
          | refine GuardK.splitD (fun h => ?_) (fun h => ?_)
          | refine CondE.splitDN (fun h => ?_) (fun h => ?_)
          | refine CondE.splitD (fun h => ?_) (fun h => ?_)
          | refine GuardK.splitN (fun h => ?_) (fun h => ?_)
          | refine GuardK.split (fun h => ?_) (fun h => ?_)
          | refine CondE.splitN (fun h => ?_) (fun h => ?_)
          | refine CondE.split (fun h => ?_) (fun h => ?_)
          | refine WeakK.id ?_
          | refine RoundK.next (by omega) ?_ ?_
          | exact trivial
          | simp only [*, go_sem, Nat.reduceAdd, Nat.reduceSub, Nat.reduceMul, Nat.reducePow, Nat.reduceEqDiff, Nat.reduceLT, Nat.reduceLeDiff, Nat.reduceBEq, Nat.reduceBNe, Int.reduceToNat, Int.reduceLT, Int.reduceLE, Int.reduceEq, Int.reduceBNe, Int.reduceBEq, Int.reduceAdd, Int.reduceSub, Int.reduceMul, Int.reduceNeg, ↓reduceIte])
      all_goals (simp_all; done)
    · obtain rfl : i = ps.length := by omega
      simp only [List.drop_length, unitsL] at hI
      repeat' (with_reducible first
          | refine And.intro ?_ ?_
          | exact DrawN.mk (by kernel_rfl)
          | exact OkN.mk (by kernel_rfl)
          | refine CallN.pure (by assumption) ?_
          | refine GuardK.splitDN (fun h => ?_) (fun h => ?_)
          | refine GuardK.splitD (fun h => ?_) (fun h => ?_)
          | refine CondE.splitDN (fun h => ?_) (fun h => ?_)
          | refine CondE.splitD (fun h => ?_) (fun h => ?_)
          | refine GuardK.splitN (fun h => ?_) (fun h => ?_)
          | refine GuardK.split (fun h => ?_) (fun h => ?_)
          | refine CondE.splitN (fun h => ?_) (fun h => ?_)
          | refine CondE.split (fun h => ?_) (fun h => ?_)
          | refine WeakK.id ?_
          | refine RoundK.next (by omega) ?_ ?_
          | exact trivial
          | simp only [*, go_sem, Nat.reduceAdd, Nat.reduceSub, Nat.reduceMul, Nat.reducePow, Nat.reduceEqDiff, Nat.reduceLT, Nat.reduceLeDiff, Nat.reduceBEq, Nat.reduceBNe, Int.reduceToNat, Int.reduceLT, Int.reduceLE, Int.reduceEq, Int.reduceBNe, Int.reduceBEq, Int.reduceAdd, Int.reduceSub, Int.reduceMul, Int.reduceNeg, ↓reduceIte])
theorem twin_spec (ps : List Plg) (hl : ps.length < 2 ^ 30) : Abs.Spec Try.prog 14 [] [.sl 3 (pl ps)] [.own 3 (pl ps)] (.ref 0) := by
  refine Abs.Spec.go (n := 7) (np := 1) (rs := [.tmp 2]) mixed Try.func14 rfl rfl rfl rfl rfl (by simp) (by simp) ?_
  simp only [go_sem, Nat.reduceAdd, Nat.reduceSub, Nat.reduceMul, Nat.reducePow, Nat.reduceEqDiff, Nat.reduceLT, Nat.reduceLeDiff, Nat.reduceBEq, Nat.reduceBNe, Int.reduceToNat, Int.reduceLT, Int.reduceLE, Int.reduceEq, Int.reduceBNe, Int.reduceBEq, Int.reduceAdd, Int.reduceSub, Int.reduceMul, Int.reduceNeg, ↓reduceIte]
  repeat' (with_reducible first
      | refine And.intro ?_ ?_
      | exact DrawN.mk (by kernel_rfl)
      | exact OkN.mk (by kernel_rfl)
      | refine CallN.pure (by assumption) ?_
      | refine GuardK.splitDN (fun h => ?_) (fun h => ?_)
      | refine GuardK.splitD (fun h => ?_) (fun h => ?_)
      | refine CondE.splitDN (fun h => ?_) (fun h => ?_)
      | refine CondE.splitD (fun h => ?_) (fun h => ?_)
      | refine GuardK.splitN (fun h => ?_) (fun h => ?_)
      | refine GuardK.split (fun h => ?_) (fun h => ?_)
      | refine CondE.splitN (fun h => ?_) (fun h => ?_)
      | refine CondE.split (fun h => ?_) (fun h => ?_)
      | refine WeakK.id ?_
      | refine RoundK.next (by omega) ?_ ?_
      | exact trivial
      | simp only [*, go_sem, Nat.reduceAdd, Nat.reduceSub, Nat.reduceMul, Nat.reducePow, Nat.reduceEqDiff, Nat.reduceLT, Nat.reduceLeDiff, Nat.reduceBEq, Nat.reduceBNe, Int.reduceToNat, Int.reduceLT, Int.reduceLE, Int.reduceEq, Int.reduceBNe, Int.reduceBEq, Int.reduceAdd, Int.reduceSub, Int.reduceMul, Int.reduceNeg, ↓reduceIte])
  all_goals omega
theorem of_beq_int {a b : Int} (h : (a == b) = true) : a = b := by simpa using h
theorem ext_plg {ps qs : List Plg} (hl : ps.length = qs.length) (h : ∀ j (h1 : j < ps.length) (h2 : j < qs.length), ps[j] = qs[j]) : ps = qs := List.ext_getElem hl h
theorem same_spec (ps qs : List Plg) (hl : ps.length < 2 ^ 62) : Abs.Spec Try.prog 11 [] [.sl 3 (pl ps), .sl 3 (pl qs)] [] (.bool (decide (ps = qs))) := by
  refine Abs.Spec.go (n := 54) (np := 2) (rs := [.tmp 4]) mixed Try.func11 rfl rfl rfl rfl rfl (by simp) (by simp) ?_
  simp only [go_sem, Nat.reduceAdd, Nat.reduceSub, Nat.reduceMul, Nat.reducePow, Nat.reduceEqDiff, Nat.reduceLT, Nat.reduceLeDiff, Nat.reduceBEq, Nat.reduceBNe, Int.reduceToNat, Int.reduceLT, Int.reduceLE, Int.reduceEq, Int.reduceBNe, Int.reduceBEq, Int.reduceAdd, Int.reduceSub, Int.reduceMul, Int.reduceNeg, ↓reduceIte]
  refine CondE.splitN (fun h => ?_) (fun h => ?_)
  · simp only [go_sem, Nat.reduceAdd, Nat.reduceSub, Nat.reduceMul, Nat.reducePow, Nat.reduceEqDiff, Nat.reduceLT, Nat.reduceLeDiff, Nat.reduceBEq, Nat.reduceBNe, Int.reduceToNat, Int.reduceLT, Int.reduceLE, Int.reduceEq, Int.reduceBNe, Int.reduceBEq, Int.reduceAdd, Int.reduceSub, Int.reduceMul, Int.reduceNeg, ↓reduceIte]
    have : ps ≠ qs := by rintro rfl; simp at h
    simp [this]
  · have hlen : ps.length = qs.length := by have := of_beq_int h; omega
    simp only [go_sem, Nat.reduceAdd, Nat.reduceSub, Nat.reduceMul, Nat.reducePow, Nat.reduceEqDiff, Nat.reduceLT, Nat.reduceLeDiff, Nat.reduceBEq, Nat.reduceBNe, Int.reduceToNat, Int.reduceLT, Int.reduceLE, Int.reduceEq, Int.reduceBNe, Int.reduceBEq, Int.reduceAdd, Int.reduceSub, Int.reduceMul, Int.reduceNeg, ↓reduceIte]
    refine LoopK.count ps.length [0, 1] [] (fun i => [(5, .int .i64 i)]) (fun i => []) (fun i => ∀ j (h1 : j < ps.length) (h2 : j < qs.length), j < i → ps[j] = qs[j]) (by simp only [go_sem, Nat.reduceAdd, Nat.reduceSub, Nat.reduceMul, Nat.reducePow, Nat.reduceEqDiff, Nat.reduceLT, Nat.reduceLeDiff, Nat.reduceBEq, Nat.reduceBNe, Int.reduceToNat, Int.reduceLT, Int.reduceLE, Int.reduceEq, Int.reduceBNe, Int.reduceBEq, Int.reduceAdd, Int.reduceSub, Int.reduceMul, Int.reduceNeg, ↓reduceIte] <;> exact rfl) (by simp only [go_sem, Nat.reduceAdd, Nat.reduceSub, Nat.reduceMul, Nat.reducePow, Nat.reduceEqDiff, Nat.reduceLT, Nat.reduceLeDiff, Nat.reduceBEq, Nat.reduceBNe, Int.reduceToNat, Int.reduceLT, Int.reduceLE, Int.reduceEq, Int.reduceBNe, Int.reduceBEq, Int.reduceAdd, Int.reduceSub, Int.reduceMul, Int.reduceNeg, ↓reduceIte] <;> exact rfl) (by simp) ?_ ?_
    · simp only [go_sem, Nat.reduceAdd, Nat.reduceSub, Nat.reduceMul, Nat.reducePow, Nat.reduceEqDiff, Nat.reduceLT, Nat.reduceLeDiff, Nat.reduceBEq, Nat.reduceBNe, Int.reduceToNat, Int.reduceLT, Int.reduceLE, Int.reduceEq, Int.reduceBNe, Int.reduceBEq, Int.reduceAdd, Int.reduceSub, Int.reduceMul, Int.reduceNeg, ↓reduceIte] <;> simp
    · intro i hi hI
      simp only [go_sem, Nat.reduceAdd, Nat.reduceSub, Nat.reduceMul, Nat.reducePow, Nat.reduceEqDiff, Nat.reduceLT, Nat.reduceLeDiff, Nat.reduceBEq, Nat.reduceBNe, Int.reduceToNat, Int.reduceLT, Int.reduceLE, Int.reduceEq, Int.reduceBNe, Int.reduceBEq, Int.reduceAdd, Int.reduceSub, Int.reduceMul, Int.reduceNeg, ↓reduceIte]
      refine CondE.splitD (fun h => ?_) (fun h => ?_)
      · have hi' : i < ps.length := by omega
        have hi2 : i < qs.length := by omega
        have hw : IntKind.wrap .i64 ((i : Int) + 1) = ((i + 1 : Nat) : Int) := by rw [wr64 (by omega) (by omega)]; omega
        have e0 : ps[i].who = qs[i].who → ps[i].asset = qs[i].asset → ps[i].units = qs[i].units → ∀ j (h1 : j < ps.length) (h2 : j < qs.length), j < i + 1 → ps[j] = qs[j] := by
          intro a b c j h1 h2 hj
          rcases Nat.lt_or_ge j i with h | h
          · exact hI j h1 h2 h
          · obtain rfl : j = i := by omega
            cases hp : ps[j]; cases hq : qs[j]; simp_all
        have e1 : ps[i] ≠ qs[i] → ps ≠ qs := by rintro h rfl; exact h rfl
        simp only [go_sem, Nat.reduceAdd, Nat.reduceSub, Nat.reduceMul, Nat.reducePow, Nat.reduceEqDiff, Nat.reduceLT, Nat.reduceLeDiff, Nat.reduceBEq, Nat.reduceBNe, Int.reduceToNat, Int.reduceLT, Int.reduceLE, Int.reduceEq, Int.reduceBNe, Int.reduceBEq, Int.reduceAdd, Int.reduceSub, Int.reduceMul, Int.reduceNeg, ↓reduceIte, pl_at ps hi', pl_at qs hi2]
        repeat' (with_reducible first
            | refine And.intro ?_ ?_
            | exact DrawN.mk (by kernel_rfl)
            | exact OkN.mk (by kernel_rfl)
            | refine CallN.pure (by assumption) ?_
            | refine GuardK.splitDN (fun h => ?_) (fun h => ?_)
            | refine GuardK.splitD (fun h => ?_) (fun h => ?_)
            | refine CondE.splitDN (fun h => ?_) (fun h => ?_)
            | refine CondE.splitD (fun h => ?_) (fun h => ?_)
            | refine GuardK.splitN (fun h => ?_) (fun h => ?_)
            | refine GuardK.split (fun h => ?_) (fun h => ?_)
            | refine CondE.splitN (fun h => ?_) (fun h => ?_)
            | refine CondE.split (fun h => ?_) (fun h => ?_)
            | refine WeakK.id ?_
            | refine RoundK.next (by omega) ?_ ?_
            | exact trivial
            | simp only [*, go_sem, Nat.reduceAdd, Nat.reduceSub, Nat.reduceMul, Nat.reducePow, Nat.reduceEqDiff, Nat.reduceLT, Nat.reduceLeDiff, Nat.reduceBEq, Nat.reduceBNe, Int.reduceToNat, Int.reduceLT, Int.reduceLE, Int.reduceEq, Int.reduceBNe, Int.reduceBEq, Int.reduceAdd, Int.reduceSub, Int.reduceMul, Int.reduceNeg, ↓reduceIte, pl_at ps hi', pl_at qs hi2])
        all_goals first
          | omega
          | (refine (decide_eq_false (e1 fun e => ?_)).symm; rw [e] at h; simp at h; done)
          | (simp only [bne_eq_false_iff_eq] at *; intro j h1 h2 hj; exact e0 (by assumption) (by assumption) (by assumption) j (by omega) (by omega) hj)
      · obtain rfl : i = ps.length := by omega
        have := ext_plg hlen (fun j h1 h2 => hI j h1 h2 (by omega))
        repeat' (with_reducible first
            | refine And.intro ?_ ?_
            | exact DrawN.mk (by kernel_rfl)
            | exact OkN.mk (by kernel_rfl)
            | refine CallN.pure (by assumption) ?_
            | refine GuardK.splitDN (fun h => ?_) (fun h => ?_)
            | refine GuardK.splitD (fun h => ?_) (fun h => ?_)
            | refine CondE.splitDN (fun h => ?_) (fun h => ?_)
            | refine CondE.splitD (fun h => ?_) (fun h => ?_)
            | refine GuardK.splitN (fun h => ?_) (fun h => ?_)
            | refine GuardK.split (fun h => ?_) (fun h => ?_)
            | refine CondE.splitN (fun h => ?_) (fun h => ?_)
            | refine CondE.split (fun h => ?_) (fun h => ?_)
            | refine WeakK.id ?_
            | refine RoundK.next (by omega) ?_ ?_
            | exact trivial
            | simp only [*, go_sem, Nat.reduceAdd, Nat.reduceSub, Nat.reduceMul, Nat.reducePow, Nat.reduceEqDiff, Nat.reduceLT, Nat.reduceLeDiff, Nat.reduceBEq, Nat.reduceBNe, Int.reduceToNat, Int.reduceLT, Int.reduceLE, Int.reduceEq, Int.reduceBNe, Int.reduceBEq, Int.reduceAdd, Int.reduceSub, Int.reduceMul, Int.reduceNeg, ↓reduceIte])
        all_goals (simp_all; done)
end Go.Proofs.Ytbllopdcbkeadaa
set_option linter.unusedSimpArgs false
set_option linter.unusedVariables false
namespace Go.Proofs.Ytbllopdcbkeadaa
open Go.Abs
theorem clone_spec (ps : List Plg) (hl : ps.length < 2 ^ 30) : Abs.Spec Try.prog 28 [] [.sl 3 (pl ps)] [.own 3 (pl ps)] (.ref 0) := by
  refine Abs.Spec.go (n := 8) (np := 1) (rs := [.tmp 2]) mixed Try.func28 rfl rfl rfl rfl rfl (by simp) (by simp) ?_
  simp only [go_sem, Nat.reduceAdd, Nat.reduceSub, Nat.reduceMul, Nat.reducePow, Nat.reduceEqDiff, Nat.reduceLT, Nat.reduceLeDiff, Nat.reduceBEq, Nat.reduceBNe, Int.reduceToNat, Int.reduceLT, Int.reduceLE, Int.reduceEq, Int.reduceBNe, Int.reduceBEq, Int.reduceAdd, Int.reduceSub, Int.reduceMul, Int.reduceNeg, ↓reduceIte]
  refine SemK.nilEq ty22 rfl (by omega) ?_
  intro b hb
  repeat' (with_reducible first
      | refine And.intro ?_ ?_
      | exact DrawN.mk (by kernel_rfl)
      | exact OkN.mk (by kernel_rfl)
      | refine CallN.pure (by assumption) ?_
      | refine GuardK.splitDN (fun h => ?_) (fun h => ?_)
      | refine GuardK.splitD (fun h => ?_) (fun h => ?_)
      | refine CondE.splitDN (fun h => ?_) (fun h => ?_)
      | refine CondE.splitD (fun h => ?_) (fun h => ?_)
      | refine GuardK.splitN (fun h => ?_) (fun h => ?_)
      | refine GuardK.split (fun h => ?_) (fun h => ?_)
      | refine CondE.splitN (fun h => ?_) (fun h => ?_)
      | refine CondE.split (fun h => ?_) (fun h => ?_)
      | refine WeakK.id ?_
      | refine RoundK.next (by omega) ?_ ?_
      | exact trivial
      | simp only [*, go_sem, Nat.reduceAdd, Nat.reduceSub, Nat.reduceMul, Nat.reducePow, Nat.reduceEqDiff, Nat.reduceLT, Nat.reduceLeDiff, Nat.reduceBEq, Nat.reduceBNe, Int.reduceToNat, Int.reduceLT, Int.reduceLE, Int.reduceEq, Int.reduceBNe, Int.reduceBEq, Int.reduceAdd, Int.reduceSub, Int.reduceMul, Int.reduceNeg, ↓reduceIte])
  all_goals first
    | omega
    | (rw [hb (by assumption)])
    | skip
theorem drop_pl (ps : List Plg) (i : Nat) : (pl ps).drop i = pl (ps.drop i) := by simp [pl]
theorem take_pl (ps : List Plg) (i : Nat) : (pl ps).take i = pl (ps.take i) := by simp [pl]
theorem pl_z {ps : List Plg} : ∀ r ∈ pl ps, r.length = 3 := by
  intro r h
  obtain ⟨p, _, rfl⟩ := List.mem_map.1 h
  rfl
theorem pl_perm {ps : List Plg} : ∀ r ∈ pl ps, ∀ d ∈ r, permOk d := by
  intro r h d hd
  obtain ⟨p, _, rfl⟩ := List.mem_map.1 h
  simp only [Plg.cells, List.mem_cons, List.not_mem_nil, or_false] at hd
  rcases hd with rfl | rfl | rfl <;> simp [go_sem]
theorem pl_leaf {ps : List Plg} : ∀ r ∈ pl ps, ∀ d ∈ r, leafB d = true := by
  intro r h d hd
  obtain ⟨p, _, rfl⟩ := List.mem_map.1 h
  simp only [Plg.cells, List.mem_cons, List.not_mem_nil, or_false] at hd
  rcases hd with rfl | rfl | rfl <;> rfl
theorem pl_flat (ps : List Plg) : (pl ps).flatten.length = ps.length * 3 := by rw [flatR_len pl_z, pl_len]
theorem delete_box (ps : List Plg) (i j cap : Nat) (hl : ps.length < 2 ^ 30) (hij : i < j) (hj : j ≤ ps.length) (hc : ps.length ≤ cap) :
    ∃ cs, (pl (ps.take i ++ ps.drop j)).length ≤ cap ∧ cs.length = cap * 3 ∧ cs.take ((pl (ps.take i ++ ps.drop j)).length * 3) = (pl (ps.take i ++ ps.drop j)).flatten ∧
      Abs.Spec Try.prog 29 [.box (boxOf (pl ps) cap 3)] [.bsub 0 0 3 (pl ps).length cap, .int .i64 i, .int .i64 j] [.box cs] (.bsub 0 0 3 (pl (ps.take i ++ ps.drop j)).length cap) := by
  obtain ⟨R, hR⟩ : ∃ R, R = ps.take i ++ ps.drop j := ⟨_, rfl⟩
  have hRl : R.length = ps.length - (j - i) := by subst hR; simp; omega
  rw [← hR]
  obtain ⟨X1, hX1⟩ : ∃ X, X = wput (boxOf (pl ps) cap 3) (0 + i * 3) (pl (ps.drop j)).flatten := ⟨_, rfl⟩
  obtain ⟨X2, hX2⟩ : ∃ X, X = wput X1 (R.length * 3) (List.replicate (ps.length - R.length) [D.int .i64 0, .int .i64 0, .int .i64 0]).flatten := ⟨_, rfl⟩
  have hbl : (boxOf (pl ps) cap 3).length = cap * 3 := boxOf_len pl_z (by rw [pl_len]; exact hc)
  have hdf : (pl (ps.drop j)).flatten.length = (ps.length - j) * 3 := by rw [pl_flat, List.length_drop]
  have hzf : (List.replicate (ps.length - R.length) [D.int .i64 0, D.int .i64 0, D.int .i64 0]).flatten.length = (ps.length - R.length) * 3 := flat_length rfl _
  have hX1l : X1.length = cap * 3 := by rw [hX1, wput_length (by rw [hbl, hdf]; omega), hbl]
  have hX2l : X2.length = cap * 3 := by rw [hX2, wput_length (by rw [hX1l, hzf]; omega), hX1l]
  have hleaf : ∀ d ∈ X2, leafB d = true := by
    rw [hX2, hX1]
    refine wput_leaf (wput_leaf (boxOf_leaf pl_leaf) (flat_leaf pl_leaf)) (flat_leaf ?_)
    intro r hr d hd
    rw [(List.mem_replicate.1 hr).2] at hd
    simp only [List.mem_cons, List.not_mem_nil, or_false] at hd
    rcases hd with rfl | rfl | rfl <;> rfl
  refine ⟨X2, ?_, ?_, ?_, ?_⟩
  · simp only [pl_len]; omega
  · exact hX2l
  · rw [pl_len, hX2, take_wput_le (Nat.le_refl _) (by rw [hX1l]; omega), hX1]
    have e : R.length * 3 = (0 + i * 3) + (pl (ps.drop j)).flatten.length := by rw [hdf, hRl]; omega
    rw [e, take_wput_full (by rw [hbl]; omega), Nat.zero_add, boxOf_take pl_z (by rw [pl_len]; omega), take_pl, hR]
    simp [pl]
  · refine Abs.Spec.go (n := 33) (np := 3) (rs := [.tmp 6]) mixed Try.func29 rfl rfl rfl rfl rfl (by simp) (by simp) ?_
    simp only [go_sem, Nat.reduceAdd, Nat.reduceSub, Nat.reduceMul, Nat.reducePow, Nat.reduceEqDiff, Nat.reduceLT, Nat.reduceLeDiff, Nat.reduceBEq, Nat.reduceBNe, Int.reduceToNat, Int.reduceLT, Int.reduceLE, Int.reduceEq, Int.reduceBNe, Int.reduceBEq, Int.reduceAdd, Int.reduceSub, Int.reduceMul, Int.reduceNeg, ↓reduceIte]
    with_reducible refine SemK.slice4 (r := 0) (off := 0) (l := ps.length) (c := cap) (k1 := .i64) (k2 := .i64) (k3 := .i64) (i := i) (j := j) (m := ps.length) ty22 ?_ ?_ ?_ ?_ ?_ ?_ ?_ ?_ ?_ ?_
    iterate 9 (first | rfl | omega)
    simp only [go_sem, Nat.reduceAdd, Nat.reduceSub, Nat.reduceMul, Nat.reducePow, Nat.reduceEqDiff, Nat.reduceLT, Nat.reduceLeDiff, Nat.reduceBEq, Nat.reduceBNe, Int.reduceToNat, Int.reduceLT, Int.reduceLE, Int.reduceEq, Int.reduceBNe, Int.reduceBEq, Int.reduceAdd, Int.reduceSub, Int.reduceMul, Int.reduceNeg, ↓reduceIte]
    have hne : ((i : Int) == (j : Int)) = false := by simp; omega
    simp only [hne, go_sem, Nat.reduceAdd, Nat.reduceSub, Nat.reduceMul, Nat.reducePow, Nat.reduceEqDiff, Nat.reduceLT, Nat.reduceLeDiff, Nat.reduceBEq, Nat.reduceBNe, Int.reduceToNat, Int.reduceLT, Int.reduceLE, Int.reduceEq, Int.reduceBNe, Int.reduceBEq, Int.reduceAdd, Int.reduceSub, Int.reduceMul, Int.reduceNeg, ↓reduceIte]
    refine ⟨DrawN.mk (by kernel_rfl), OkN.mk (by kernel_rfl), by omega, OkN.mk (by kernel_rfl), ⟨by omega, hc⟩, ?_⟩
    have hdl : (pl (ps.drop j)).length = ps.length - j := by simp only [pl_len, List.length_drop]
    have hb : borBs (j * 3) 3 (ps.length - j) (.box (boxOf (pl ps) cap 3)) = .sl 3 (pl (ps.drop j)) := by
      have := bor_boxOf (rows := pl ps) (cap := cap) (i := j) pl_z pl_perm (by rw [pl_len]; exact hj) (by rw [pl_len]; exact hc)
      rw [pl_len, drop_pl] at this; exact this
    with_reducible refine SemK.appBox (r := 0) (off := 0) (l := i) (c := cap) (cs := boxOf (pl ps) cap 3) (rows2 := pl (ps.drop j)) ty22 ty22 ?_ ?_ ?_ ?_ ?_ ?_ ?_
    · rfl
    · rfl
    · show rowsD 3 (hideIf _ (borBs (j * 3) 3 (ps.length - j) (.box (boxOf (pl ps) cap 3)))) = _
      rw [hb]; rfl
    · omega
    · omega
    · intro _
      have hil : i + (pl (ps.drop j)).length = R.length := by rw [hdl, hRl]; omega
      have hil2 : i + (ps.drop j).length = R.length := by rw [← hil, pl_len]
      refine ⟨?_, ?_⟩
      · rw [boxOf_len pl_z (by rw [pl_len]; exact hc), hil, Nat.zero_add]; exact Nat.mul_le_mul_right 3 (by omega)
      · rw [← hX1]
        simp only [go_sem, Nat.reduceAdd, Nat.reduceSub, Nat.reduceMul, Nat.reducePow, Nat.reduceEqDiff, Nat.reduceLT, Nat.reduceLeDiff, Nat.reduceBEq, Nat.reduceBNe, Int.reduceToNat, Int.reduceLT, Int.reduceLE, Int.reduceEq, Int.reduceBNe, Int.reduceBEq, Int.reduceAdd, Int.reduceSub, Int.reduceMul, Int.reduceNeg, ↓reduceIte, hil2]
        refine ⟨⟨by omega, by omega⟩, ?_⟩
        with_reducible refine SemK.clear (r := 0) (off := R.length * 3) (l := ps.length - R.length) (c := cap - R.length) (cs := X1) (zc := [.int .i64 0, .int .i64 0, .int .i64 0]) ty22 ?_ ?_ ?_ ?_ ?_ ?_ ?_
        · rfl
        · rfl
        · exact zel22
        · rfl
        · simp [go_sem]
        · rw [hX1l]; omega
        · rw [← hX2]
          simp only [go_sem, Nat.reduceAdd, Nat.reduceSub, Nat.reduceMul, Nat.reducePow, Nat.reduceEqDiff, Nat.reduceLT, Nat.reduceLeDiff, Nat.reduceBEq, Nat.reduceBNe, Int.reduceToNat, Int.reduceLT, Int.reduceLE, Int.reduceEq, Int.reduceBNe, Int.reduceBEq, Int.reduceAdd, Int.reduceSub, Int.reduceMul, Int.reduceNeg, ↓reduceIte]
          exact leDL_leaf hleaf
    · intro h; exfalso; rw [hdl] at h; omega
theorem delete_spec (ps : List Plg) (i j : Nat) (hl : ps.length < 2 ^ 30) (hij : i < j) (hj : j ≤ ps.length) :
    Abs.Spec Try.prog 29 [.own 3 (pl ps)] [.ref 0, .int .i64 i, .int .i64 j] [.undef, .own 3 (pl (ps.take i ++ ps.drop j))] (.ref 1) := by
  refine Spec.of_box (hr := []) (ds := [.int .i64 i, .int .i64 j]) ?_ pl_z pl_perm ?_ (by simp) ?_
  · intro h
    have := congrArg List.length h
    rw [pl_len] at this
    have h0 : ps.length = 0 := this
    omega
  · intro d hd
    simp only [List.mem_cons, List.not_mem_nil, or_false] at hd
    rcases hd with rfl | rfl <;> simp [D.names]
  · intro cap hcap
    obtain ⟨cs, h1, h2, h3, h4⟩ := delete_box ps i j cap hl hij hj (by rw [pl_len] at hcap; exact hcap)
    exact .inl ⟨cs, h1, h2, h3, h4⟩
end Go.Proofs.Ytbllopdcbkeadaa
set_option linter.unusedSimpArgs false
set_option linter.unusedVariables false
namespace Go.Proofs.Ytbllopdcbkeadaa
open Go.Abs
/-- at the end: by append alone -/
theorem insert_end (ps : List Plg) (q : Plg) (hl : ps.length < 2 ^ 30) :
    Abs.Spec Try.prog 30 [.own 3 (pl ps), .own 3 (pl [q])] [.ref 0, .int .i64 ps.length, .ref 1] [.undef, .undef, .own 3 (pl (ps ++ [q]))] (.ref 2) := by
  refine Abs.Spec.go (n := 95) (np := 3) (rs := [.tmp 6]) mixed Try.func30 rfl rfl rfl rfl rfl (by simp) (by simp) ?_
  simp only [go_sem, Nat.reduceAdd, Nat.reduceSub, Nat.reduceMul, Nat.reducePow, Nat.reduceEqDiff, Nat.reduceLT, Nat.reduceLeDiff, Nat.reduceBEq, Nat.reduceBNe, Int.reduceToNat, Int.reduceLT, Int.reduceLE, Int.reduceEq, Int.reduceBNe, Int.reduceBEq, Int.reduceAdd, Int.reduceSub, Int.reduceMul, Int.reduceNeg, ↓reduceIte]
  refine ⟨by omega, by omega, by simp [pl]⟩
theorem splice_end {A Z B : List (List D)} {k : Nat} (hk : k = A.length) (hz : B.length = Z.length) : splice (A ++ Z) k B = A ++ B := by
  subst hk
  unfold splice
  rw [List.take_left, hz, ← List.length_append, List.drop_length, List.append_nil]
theorem splice_one {A Z : List (List D)} {q : List D} {k : Nat} (hk : k = A.length) : splice (A ++ Z) k [q] = (A ++ [q]) ++ Z.drop 1 := by
  subst hk
  unfold splice
  rw [List.take_left, List.drop_append, List.drop_eq_nil_of_le (by simp)]
  simp
theorem ov_find : Extern.find Try.f59 = some (Extern.SlicesOverlaps.overlaps Try.f59.params Try.f59.resultTypes) := by kernel_rfl
theorem ov_next : Extern.findNext Try.f59 = none := by kernel_rfl
theorem ov_p : Try.f59.params[0]? = some 22 := by rfl
/-- before others -/
theorem insert_mid (ps : List Plg) (q : Plg) (i : Nat) (hl : ps.length < 2 ^ 30) (hi : i < ps.length) :
    Abs.Spec Try.prog 30 [.own 3 (pl ps), .own 3 (pl [q])] [.ref 0, .int .i64 i, .ref 1] [.undef, .undef, .own 3 (pl (ps.take i ++ [q] ++ ps.drop i))] (.ref 2) := by
  refine Spec.of_box (hr := [.own 3 (pl [q])]) (ds := [.int .i64 i, .ref 1]) ?_ pl_z pl_perm ?_ ?_ ?_
  · intro h
    have := congrArg List.length h
    rw [pl_len] at this
    have h0 : ps.length = 0 := this
    omega
  · intro d hd
    simp only [List.mem_cons, List.not_mem_nil, or_false] at hd
    rcases hd with rfl | rfl <;> simp [D.names]
  · intro h hh
    simp only [List.mem_cons, List.not_mem_nil, or_false] at hh
    exact ⟨_, _, hh⟩
  intro cap hcap
  rw [pl_len] at hcap
  have hbl : (boxOf (pl ps) cap 3).length = cap * 3 := boxOf_len pl_z (by rw [pl_len]; exact hcap)
  have hne : ((i : Int) == (ps.length : Int)) = false := by simp; omega
  have hw : IntKind.wrap .i64 ((ps.length : Int) + 1) = ((ps.length + 1 : Nat) : Int) := by rw [wr64 (by omega) (by omega)]; omega
  have hw2 : IntKind.wrap .i64 ((i : Int) + 1) = ((i + 1 : Nat) : Int) := by rw [wr64 (by omega) (by omega)]; omega
  have hw3 : IntKind.wrap .i64 (((ps.length + 1 : Nat) : Int) - i) = ((ps.length + 1 - i : Nat) : Int) := by rw [wr64 (by omega) (by omega)]; omega
  have hbi : borBs (i * 3) 3 (ps.length - i) (.box (boxOf (pl ps) cap 3)) = .sl 3 (pl (ps.drop i)) := by
    have := bor_boxOf (rows := pl ps) (cap := cap) (i := i) pl_z pl_perm (by rw [pl_len]; omega) (by rw [pl_len]; exact hcap)
    rw [pl_len, drop_pl] at this; exact this
  have hb0 : borBs 0 3 i (.box (boxOf (pl ps) cap 3)) = .sl 3 (pl (ps.take i)) := by
    have hl0 : (pl (ps.take i)).length = i := by rw [pl_len, List.length_take]; omega
    have := bor_box (z := 3) (off := 0) (cs := boxOf (pl ps) cap 3) (R := pl (ps.take i)) (by rw [List.drop_zero, hl0, boxOf_take pl_z (by rw [pl_len]; omega), take_pl]) pl_z pl_perm (by rw [hl0, hbl]; omega)
    rw [hl0] at this; exact this
  have hdf : (pl (ps.drop i)).flatten.length = (ps.length - i) * 3 := by rw [pl_flat, List.length_drop]
  by_cases hfit : ps.length + 1 ≤ cap
  · left
    obtain ⟨Y1, hY1⟩ : ∃ X, X = wput (boxOf (pl ps) cap 3) ((i + 1) * 3) (pl (ps.drop i)).flatten := ⟨_, rfl⟩
    obtain ⟨Y2, hY2⟩ : ∃ X, X = wput Y1 (i * 3) (pl [q]).flatten := ⟨_, rfl⟩
    have hY1l : Y1.length = cap * 3 := by rw [hY1, wput_length (by rw [hbl, hdf]; omega), hbl]
    have hqf : (pl [q]).flatten.length = 3 := by rw [pl_flat]; rfl
    have hY2l : Y2.length = cap * 3 := by rw [hY2, wput_length (by rw [hY1l, hqf]; omega), hY1l]
    have hleaf : ∀ d ∈ Y2, leafB d = true := by
      rw [hY2, hY1]
      exact wput_leaf (wput_leaf (boxOf_leaf pl_leaf) (flat_leaf pl_leaf)) (flat_leaf pl_leaf)
    refine ⟨Y2, ?_, ?_, ?_, ?_⟩
    · simp only [pl_len]; simp; omega
    · exact hY2l
    · have e0 : (pl (ps.take i ++ [q] ++ ps.drop i)).length * 3 = (i + 1) * 3 + (pl (ps.drop i)).flatten.length := by
        rw [hdf, pl_len]; simp; omega
      have e1 : (pl (ps.take i ++ [q] ++ ps.drop i)).flatten = (pl (ps.take i)).flatten ++ (pl [q]).flatten ++ (pl (ps.drop i)).flatten := by simp [pl]
      have e2 : Y1.take (i * 3) = (pl (ps.take i)).flatten := by
        rw [hY1, take_wput_le (by omega) (by rw [hbl]; omega), boxOf_take pl_z (by rw [pl_len]; omega), take_pl]
      have e3 : Y1.take ((i + 1) * 3 + (pl (ps.drop i)).flatten.length) = (boxOf (pl ps) cap 3).take ((i + 1) * 3) ++ (pl (ps.drop i)).flatten := by
        rw [hY1, take_wput_full (by rw [hbl]; omega)]
      rw [e0, e1, hY2]
      unfold wput
      have hl0 : (Y1.take (i * 3) ++ (pl [q]).flatten).length = (i + 1) * 3 := by rw [List.length_append, hqf, List.length_take, hY1l]; omega
      rw [List.take_append, List.take_of_length_le (by rw [hl0]; omega), hl0, hqf, e2]
      congr 1
      have e4 : i * 3 + 3 = (i + 1) * 3 := by omega
      rw [e4, Nat.add_sub_cancel_left]
      have := congrArg (List.drop ((i + 1) * 3)) e3
      have hX : ((boxOf (pl ps) cap 3).take ((i + 1) * 3)).length = (i + 1) * 3 := by rw [List.length_take, hbl]; omega
      rw [List.drop_take, Nat.add_sub_cancel_left, List.drop_append_of_le_length (by omega)] at this
      have hnil : ((boxOf (pl ps) cap 3).take ((i + 1) * 3)).drop ((i + 1) * 3) = [] := List.drop_eq_nil_of_le (by omega)
      rw [hnil, List.nil_append] at this
      exact this
    · show Abs.Spec Try.prog 30 [.box (boxOf (pl ps) cap 3), .own 3 (pl [q])] [.bsub 0 0 3 (pl ps).length cap, .int .i64 i, .ref 1] [.box Y2, .undef] (.bsub 0 0 3 (pl (ps.take i ++ [q] ++ ps.drop i)).length cap)
      refine Abs.Spec.go (n := 95) (np := 3) (rs := [.tmp 6]) mixed Try.func30 rfl rfl rfl rfl rfl (by simp) (by simp) ?_
      simp only [go_sem, Nat.reduceAdd, Nat.reduceSub, Nat.reduceMul, Nat.reducePow, Nat.reduceEqDiff, Nat.reduceLT, Nat.reduceLeDiff, Nat.reduceBEq, Nat.reduceBNe, Int.reduceToNat, Int.reduceLT, Int.reduceLE, Int.reduceEq, Int.reduceBNe, Int.reduceBEq, Int.reduceAdd, Int.reduceSub, Int.reduceMul, Int.reduceNeg, ↓reduceIte, hne, hw]
      refine ⟨⟨by omega, hcap⟩, ?_⟩
      with_reducible refine SemK.cap (r := 0) (off := 0) (l := ps.length) (c := cap) ty22 ?_ ?_ ?_
      · rfl
      · omega
      simp only [go_sem, Nat.reduceAdd, Nat.reduceSub, Nat.reduceMul, Nat.reducePow, Nat.reduceEqDiff, Nat.reduceLT, Nat.reduceLeDiff, Nat.reduceBEq, Nat.reduceBNe, Int.reduceToNat, Int.reduceLT, Int.reduceLE, Int.reduceEq, Int.reduceBNe, Int.reduceBEq, Int.reduceAdd, Int.reduceSub, Int.reduceMul, Int.reduceNeg, ↓reduceIte]
      refine CondE.splitD (fun h => ?_) (fun h => ?_)
      · exfalso; omega
      simp only [go_sem, Nat.reduceAdd, Nat.reduceSub, Nat.reduceMul, Nat.reducePow, Nat.reduceEqDiff, Nat.reduceLT, Nat.reduceLeDiff, Nat.reduceBEq, Nat.reduceBNe, Int.reduceToNat, Int.reduceLT, Int.reduceLE, Int.reduceEq, Int.reduceBNe, Int.reduceBEq, Int.reduceAdd, Int.reduceSub, Int.reduceMul, Int.reduceNeg, ↓reduceIte, hw, hw2]
      refine ⟨by omega, by omega, ?_⟩
      refine CallN.sem rfl ?_
      with_reducible refine SemK.overlaps (k := 59) (fn := Try.f59) (t0 := 22) (z := 3) (r2 := 1) (z2 := 3) (rows := pl [q]) (r := 0) (off := (i + 1) * 3) (l := ps.length + 1 - 0 - (i + 1)) (c := cap - 0 - (i + 1)) (cs := boxOf (pl ps) cap 3) ?_ Try.func59 ?_ ?_ ov_next ov_find ov_p ty22 ?_ ?_ ?_ ?_ ?_ ?_
      iterate 8 (first | rfl | omega)
      simp only [go_sem, Nat.reduceAdd, Nat.reduceSub, Nat.reduceMul, Nat.reducePow, Nat.reduceEqDiff, Nat.reduceLT, Nat.reduceLeDiff, Nat.reduceBEq, Nat.reduceBNe, Int.reduceToNat, Int.reduceLT, Int.reduceLE, Int.reduceEq, Int.reduceBNe, Int.reduceBEq, Int.reduceAdd, Int.reduceSub, Int.reduceMul, Int.reduceNeg, ↓reduceIte, hw2]
      refine ⟨DrawN.mk (by kernel_rfl), OkN.mk (by kernel_rfl), ⟨by omega, by omega⟩, OkN.mk (by kernel_rfl), ⟨by omega, by omega⟩, ?_⟩
      have hmin : min (ps.length + 1 - 0 - i) (ps.length + 1 - 0 - (i + 1)) = ps.length - i := by omega
      with_reducible refine SemK.copyBox (z := 3) (r := 0) (off := (i + 1) * 3) (l := ps.length + 1 - 0 - (i + 1)) (c := cap - 0 - (i + 1)) (ly := ps.length + 1 - 0 - i) (cs := boxOf (pl ps) cap 3) (rows := pl (ps.drop i)) ty22 ?_ ?_ ?_ ?_ ?_ ?_
      · rfl
      · rfl
      · show _ = 3 ∧ _ = _ ∧ _ ≤ _ ∧ rowsD 3 (hideIf _ (borBs (i * 3) 3 (min (ps.length + 1 - 0 - i) (ps.length + 1 - 0 - (i + 1))) (.box (boxOf (pl ps) cap 3)))) = some _
        rw [hmin, hbi]
        exact ⟨rfl, rfl, by omega, rfl⟩
      · omega
      · rw [hmin, hbl]; omega
      rw [← hY1, hmin]
      simp only [go_sem, Nat.reduceAdd, Nat.reduceSub, Nat.reduceMul, Nat.reducePow, Nat.reduceEqDiff, Nat.reduceLT, Nat.reduceLeDiff, Nat.reduceBEq, Nat.reduceBNe, Int.reduceToNat, Int.reduceLT, Int.reduceLE, Int.reduceEq, Int.reduceBNe, Int.reduceBEq, Int.reduceAdd, Int.reduceSub, Int.reduceMul, Int.reduceNeg, ↓reduceIte]
      refine ⟨⟨by omega, by omega⟩, ?_⟩
      have hmin2 : min 1 (ps.length + 1 - 0 - i) = 1 := by omega
      with_reducible refine SemK.copyBox (z := 3) (r := 0) (off := i * 3) (l := ps.length + 1 - 0 - i) (c := cap - 0 - i) (ly := 1) (cs := Y1) (rows := pl [q]) ty22 ?_ ?_ ?_ ?_ ?_ ?_
      · rfl
      · rfl
      · refine ⟨pl [q], rfl, rfl, by omega, ?_⟩
        rw [hmin2]; rfl
      · omega
      · rw [hmin2, hY1l]; omega
      rw [← hY2, hmin2]
      simp only [go_sem, Nat.reduceAdd, Nat.reduceSub, Nat.reduceMul, Nat.reducePow, Nat.reduceEqDiff, Nat.reduceLT, Nat.reduceLeDiff, Nat.reduceBEq, Nat.reduceBNe, Int.reduceToNat, Int.reduceLT, Int.reduceLE, Int.reduceEq, Int.reduceBNe, Int.reduceBEq, Int.reduceAdd, Int.reduceSub, Int.reduceMul, Int.reduceNeg, ↓reduceIte]
      exact ⟨⟨by simp; omega, rfl⟩, leDL_leaf hleaf⟩
  · right
    show Abs.Spec Try.prog 30 [.box (boxOf (pl ps) cap 3), .own 3 (pl [q])] [.bsub 0 0 3 (pl ps).length cap, .int .i64 i, .ref 1] [.undef, .undef, .own 3 (pl (ps.take i ++ [q] ++ ps.drop i))] (.ref 2)
    refine Abs.Spec.go (n := 95) (np := 3) (rs := [.tmp 6]) mixed Try.func30 rfl rfl rfl rfl rfl (by simp) (by simp) ?_
    simp only [go_sem, Nat.reduceAdd, Nat.reduceSub, Nat.reduceMul, Nat.reducePow, Nat.reduceEqDiff, Nat.reduceLT, Nat.reduceLeDiff, Nat.reduceBEq, Nat.reduceBNe, Int.reduceToNat, Int.reduceLT, Int.reduceLE, Int.reduceEq, Int.reduceBNe, Int.reduceBEq, Int.reduceAdd, Int.reduceSub, Int.reduceMul, Int.reduceNeg, ↓reduceIte, hne, hw]
    refine ⟨⟨by omega, hcap⟩, ?_⟩
    with_reducible refine SemK.cap (r := 0) (off := 0) (l := ps.length) (c := cap) ty22 ?_ ?_ ?_
    · rfl
    · omega
    simp only [go_sem, Nat.reduceAdd, Nat.reduceSub, Nat.reduceMul, Nat.reducePow, Nat.reduceEqDiff, Nat.reduceLT, Nat.reduceLeDiff, Nat.reduceBEq, Nat.reduceBNe, Int.reduceToNat, Int.reduceLT, Int.reduceLE, Int.reduceEq, Int.reduceBNe, Int.reduceBEq, Int.reduceAdd, Int.reduceSub, Int.reduceMul, Int.reduceNeg, ↓reduceIte]
    refine CondE.splitD (fun h => ?_) (fun h => ?_)
    · simp only [go_sem, Nat.reduceAdd, Nat.reduceSub, Nat.reduceMul, Nat.reducePow, Nat.reduceEqDiff, Nat.reduceLT, Nat.reduceLeDiff, Nat.reduceBEq, Nat.reduceBNe, Int.reduceToNat, Int.reduceLT, Int.reduceLE, Int.reduceEq, Int.reduceBNe, Int.reduceBEq, Int.reduceAdd, Int.reduceSub, Int.reduceMul, Int.reduceNeg, ↓reduceIte, hw, hw2, hw3]
      refine ⟨by omega, ?_⟩
      with_reducible refine SemK.appZeros (k := .i64) (k2 := .i64) (m := ps.length + 1 - i) (r := 0) (off := 0) (l := i) (c := cap) (rows := pl (ps.take i)) (zc := [.int .i64 0, .int .i64 0, .int .i64 0]) ty22 ty3 ?_ ?_ zel22 ?_ ?_ ?_ ?_ ?_ ?_ ?_ ?_ ?_ ?_ ?_
      · rfl
      · rfl
      · rfl
      · intro d hd
        simp only [List.mem_cons, List.not_mem_nil, or_false] at hd
        rcases hd with rfl | rfl | rfl <;> simp [go_sem]
      · omega
      · omega
      · omega
      · omega
      · show hideIf _ (borBs 0 3 i (.box (boxOf (pl ps) cap 3))) = _
        rw [hb0]; rfl
      · rw [pl_len, List.length_take]; omega
      · omega
      · rfl
      obtain ⟨Z, hZ⟩ : ∃ X, X = List.replicate (ps.length + 1 - i) [D.int .i64 0, D.int .i64 0, D.int .i64 0] := ⟨_, rfl⟩
      have hZl : Z.length = ps.length + 1 - i := by rw [hZ]; simp
      obtain ⟨O1, hO1⟩ : ∃ X, X = pl (ps.take i) ++ Z := ⟨_, rfl⟩
      have hal : i = (pl (ps.take i)).length := by rw [pl_len, List.length_take]; omega
      have hO1l : O1.length = ps.length + 1 := by rw [hO1, List.length_append, ← hal, hZl]; omega
      obtain ⟨O2, hO2⟩ : ∃ X, X = splice O1 i (pl [q]) := ⟨_, rfl⟩
      have hO2l : O2.length = ps.length + 1 := by rw [hO2, splice_len (by rw [hO1l]; show i + 1 ≤ _; omega), hO1l]
      obtain ⟨O3, hO3⟩ : ∃ X, X = splice O2 (i + 1) (pl (ps.drop i)) := ⟨_, rfl⟩
      have hfin : O3 = pl (ps.take i ++ [q] ++ ps.drop i) := by
        have h2 : O2 = (pl (ps.take i) ++ pl [q]) ++ Z.drop 1 := by rw [hO2, hO1]; exact splice_one hal
        rw [hO3, h2, splice_end (by rw [List.length_append, ← hal]; rfl) (by rw [pl_len, List.length_drop, List.length_drop, hZl]; omega)]
        simp [pl]
      rw [← hZ, ← hO1]
      simp only [go_sem, Nat.reduceAdd, Nat.reduceSub, Nat.reduceMul, Nat.reducePow, Nat.reduceEqDiff, Nat.reduceLT, Nat.reduceLeDiff, Nat.reduceBEq, Nat.reduceBNe, Int.reduceToNat, Int.reduceLT, Int.reduceLE, Int.reduceEq, Int.reduceBNe, Int.reduceBEq, Int.reduceAdd, Int.reduceSub, Int.reduceMul, Int.reduceNeg, ↓reduceIte, hO1l]
      refine ⟨⟨by omega, by omega⟩, ?_⟩
      have hmin3 : min 1 (ps.length + 1 - i) = 1 := by omega
      with_reducible refine SemK.copyOwn (z := 3) (r := 656) (lo := i) (len := ps.length + 1 - i) (ly := 1) (R := O1) (rows := pl [q]) ty22 ?_ ?_ ?_ ?_ ?_ ?_ ?_
      · rfl
      · rfl
      · refine ⟨pl [q], rfl, rfl, by omega, ?_⟩
        rw [hmin3]; rfl
      · omega
      · rw [hmin3, hO1l]; omega
      · rw [hmin3]; omega
      rw [← hO2, hmin3]
      simp only [go_sem, Nat.reduceAdd, Nat.reduceSub, Nat.reduceMul, Nat.reducePow, Nat.reduceEqDiff, Nat.reduceLT, Nat.reduceLeDiff, Nat.reduceBEq, Nat.reduceBNe, Int.reduceToNat, Int.reduceLT, Int.reduceLE, Int.reduceEq, Int.reduceBNe, Int.reduceBEq, Int.reduceAdd, Int.reduceSub, Int.reduceMul, Int.reduceNeg, ↓reduceIte, hO2l, hw2]
      refine ⟨DrawN.mk (by kernel_rfl), OkN.mk (by kernel_rfl), ⟨by omega, by omega⟩, OkN.mk (by kernel_rfl), ⟨by omega, hcap⟩, ?_⟩
      have hmin4 : min (ps.length - i) (ps.length + 1 - (i + 1)) = ps.length - i := by omega
      with_reducible refine SemK.copyOwn (z := 3) (r := 656) (lo := i + 1) (len := ps.length + 1 - (i + 1)) (ly := ps.length - i) (R := O2) (rows := pl (ps.drop i)) ty22 ?_ ?_ ?_ ?_ ?_ ?_ ?_
      · rfl
      · rfl
      · show _ = 3 ∧ _ = _ ∧ _ ≤ _ ∧ rowsD 3 (hideIf _ (borBs (i * 3) 3 (min (ps.length - i) (ps.length + 1 - (i + 1))) (.box (boxOf (pl ps) cap 3)))) = some _
        rw [hmin4, hbi]
        exact ⟨rfl, rfl, by omega, rfl⟩
      · omega
      · rw [hmin4, hO2l]; omega
      · rw [hmin4]; omega
      rw [← hO3, hmin4, hfin]
      simp only [go_sem, Nat.reduceAdd, Nat.reduceSub, Nat.reduceMul, Nat.reducePow, Nat.reduceEqDiff, Nat.reduceLT, Nat.reduceLeDiff, Nat.reduceBEq, Nat.reduceBNe, Int.reduceToNat, Int.reduceLT, Int.reduceLE, Int.reduceEq, Int.reduceBNe, Int.reduceBEq, Int.reduceAdd, Int.reduceSub, Int.reduceMul, Int.reduceNeg, ↓reduceIte]
    · exfalso; omega
end Go.Proofs.Ytbllopdcbkeadaa
set_option linter.unusedSimpArgs false
set_option linter.unusedVariables false
namespace Go.Proofs.Ytbllopdcbkeadaa
open Go.Abs
theorem cmp_spec (p : Plg) (x w a : Int) : Abs.Spec Try.prog 27 [] [.agg [.int .i64 p.who, .int .i64 p.asset, .int .i64 p.units], .int .i64 x, .eaddr [.int .i64 w], .eaddr [.int .i64 a]] [] (.int .i64 (cmpW p w a)) := by
  have h := compare_spec p w a
  refine Abs.Spec.go (n := 11) (np := 4) (rs := [.tmp 6]) mixed Try.func27 rfl rfl rfl rfl rfl (by simp) (by simp) ?_
  simp only [go_sem, Nat.reduceAdd, Nat.reduceSub, Nat.reduceMul, Nat.reducePow, Nat.reduceEqDiff, Nat.reduceLT, Nat.reduceLeDiff, Nat.reduceBEq, Nat.reduceBNe, Int.reduceToNat, Int.reduceLT, Int.reduceLE, Int.reduceEq, Int.reduceBNe, Int.reduceBEq, Int.reduceAdd, Int.reduceSub, Int.reduceMul, Int.reduceNeg, ↓reduceIte]
  repeat' (with_reducible first
      | refine And.intro ?_ ?_
      | exact DrawN.mk (by kernel_rfl)
      | exact OkN.mk (by kernel_rfl)
      | refine CallN.pure (by assumption) ?_
      | refine GuardK.splitDN (fun h => ?_) (fun h => ?_)
      | refine GuardK.splitD (fun h => ?_) (fun h => ?_)
      | refine CondE.splitDN (fun h => ?_) (fun h => ?_)
      | refine CondE.splitD (fun h => ?_) (fun h => ?_)
      | refine GuardK.splitN (fun h => ?_) (fun h => ?_)
      | refine GuardK.split (fun h => ?_) (fun h => ?_)
      | refine CondE.splitN (fun h => ?_) (fun h => ?_)
      | refine CondE.split (fun h => ?_) (fun h => ?_)
      | refine WeakK.id ?_
      | refine RoundK.next (by omega) ?_ ?_
      | exact trivial
      | simp only [*, go_sem, Nat.reduceAdd, Nat.reduceSub, Nat.reduceMul, Nat.reducePow, Nat.reduceEqDiff, Nat.reduceLT, Nat.reduceLeDiff, Nat.reduceBEq, Nat.reduceBNe, Int.reduceToNat, Int.reduceLT, Int.reduceLE, Int.reduceEq, Int.reduceBNe, Int.reduceBEq, Int.reduceAdd, Int.reduceSub, Int.reduceMul, Int.reduceNeg, ↓reduceIte])
theorem half {i j : Nat} (h : i + j < 2 ^ 63) : IntKind.wrap .i64 (ishr .u64 (IntKind.wrap .u64 (IntKind.wrap .i64 ((i : Int) + j))) 1) = (((i + j) / 2 : Nat) : Int) := by
  rw [wr64 (x := (i : Int) + j) (by omega) (by omega)]
  have hu : ∀ x : Int, 0 ≤ x → x < 18446744073709551616 → IntKind.wrap .u64 x = x := by
    intro x h1 h2
    simp [IntKind.wrap, IntKind.signed, IntKind.bits]
    omega
  rw [hu ((i : Int) + j) (by omega) (by omega)]
  have : ishr .u64 ((i : Int) + j) 1 = (((i + j) / 2 : Nat) : Int) := by
    show ((i : Int) + j).fdiv (2 ^ 1) = _
    rw [Int.fdiv_eq_ediv_of_nonneg _ (by omega)]
    omega
  rw [this, wr64 (by omega) (by omega)]
theorem search_spec (ps : List Plg) (w a : Int) (hl : ps.length < 2 ^ 62) (hg : Good ps) (hr : rightB w a = true) :
    Abs.Spec Try.prog 26 [] [.sl 3 (pl ps), .int .i64 0, .fn 27 [.eaddr [.int .i64 w], .eaddr [.int .i64 a]]] [] (.tup [.int .i64 (pos (w * 8 + a) ps), .bool (isAt (w * 8 + a) ps)]) := by
  refine Abs.Spec.go (n := 49) (np := 3) (rs := [.tmp 6, .tmp 7]) mixed Try.func26 rfl rfl rfl rfl rfl (by simp) (by simp) ?_
  simp only [go_sem, Nat.reduceAdd, Nat.reduceSub, Nat.reduceMul, Nat.reducePow, Nat.reduceEqDiff, Nat.reduceLT, Nat.reduceLeDiff, Nat.reduceBEq, Nat.reduceBNe, Int.reduceToNat, Int.reduceLT, Int.reduceLE, Int.reduceEq, Int.reduceBNe, Int.reduceBEq, Int.reduceAdd, Int.reduceSub, Int.reduceMul, Int.reduceNeg, ↓reduceIte]
  refine LoopK.over (T := Nat × Nat) [0, 1, 2, 8] [224] (fun s => [(9, .int .i64 s.1), (10, .int .i64 s.2)]) (fun s => [])
    (fun s => s.1 ≤ s.2 ∧ s.2 ≤ ps.length ∧ (∀ k (h : k < ps.length), k < s.1 → ps[k].key < w * 8 + a) ∧ ∀ k (h : k < ps.length), s.2 ≤ k → w * 8 + a ≤ ps[k].key) (fun s => s.2 - s.1) (0, ps.length) (by simp only [go_sem, Nat.reduceAdd, Nat.reduceSub, Nat.reduceMul, Nat.reducePow, Nat.reduceEqDiff, Nat.reduceLT, Nat.reduceLeDiff, Nat.reduceBEq, Nat.reduceBNe, Int.reduceToNat, Int.reduceLT, Int.reduceLE, Int.reduceEq, Int.reduceBNe, Int.reduceBEq, Int.reduceAdd, Int.reduceSub, Int.reduceMul, Int.reduceNeg, ↓reduceIte] <;> exact rfl) (by simp only [go_sem, Nat.reduceAdd, Nat.reduceSub, Nat.reduceMul, Nat.reducePow, Nat.reduceEqDiff, Nat.reduceLT, Nat.reduceLeDiff, Nat.reduceBEq, Nat.reduceBNe, Int.reduceToNat, Int.reduceLT, Int.reduceLE, Int.reduceEq, Int.reduceBNe, Int.reduceBEq, Int.reduceAdd, Int.reduceSub, Int.reduceMul, Int.reduceNeg, ↓reduceIte] <;> exact rfl) ?_ ?_ ?_
  · exact ⟨by omega, by omega, by omega, by omega⟩
  · simp only [go_sem, Nat.reduceAdd, Nat.reduceSub, Nat.reduceMul, Nat.reducePow, Nat.reduceEqDiff, Nat.reduceLT, Nat.reduceLeDiff, Nat.reduceBEq, Nat.reduceBNe, Int.reduceToNat, Int.reduceLT, Int.reduceLE, Int.reduceEq, Int.reduceBNe, Int.reduceBEq, Int.reduceAdd, Int.reduceSub, Int.reduceMul, Int.reduceNeg, ↓reduceIte] <;> simp
  · rintro ⟨i, j⟩ ⟨h1, h2, h3, h4⟩
    simp only [go_sem, Nat.reduceAdd, Nat.reduceSub, Nat.reduceMul, Nat.reducePow, Nat.reduceEqDiff, Nat.reduceLT, Nat.reduceLeDiff, Nat.reduceBEq, Nat.reduceBNe, Int.reduceToNat, Int.reduceLT, Int.reduceLE, Int.reduceEq, Int.reduceBNe, Int.reduceBEq, Int.reduceAdd, Int.reduceSub, Int.reduceMul, Int.reduceNeg, ↓reduceIte]
    refine CondE.splitD (fun h => ?_) (fun h => ?_)
    · have hij : i < j := by omega
      have h2 : j ≤ ps.length := h2
      obtain ⟨m, hm⟩ : ∃ m, m = (i + j) / 2 := ⟨_, rfl⟩
      have hml : m < ps.length := by omega
      have hmv := half (i := i) (j := j) (by omega)
      rw [← hm] at hmv
      have hc := cmp_spec ps[m] 0 w a
      have hw : IntKind.wrap .i64 ((m : Int) + 1) = ((m + 1 : Nat) : Int) := by rw [wr64 (by omega) (by omega)]; omega
      have hlt := cmpW_lt (hg.1 _ (List.getElem_mem hml)).1 hr
      have hp := List.pairwise_iff_getElem.1 hg.2
      simp only [go_sem, Nat.reduceAdd, Nat.reduceSub, Nat.reduceMul, Nat.reducePow, Nat.reduceEqDiff, Nat.reduceLT, Nat.reduceLeDiff, Nat.reduceBEq, Nat.reduceBNe, Int.reduceToNat, Int.reduceLT, Int.reduceLE, Int.reduceEq, Int.reduceBNe, Int.reduceBEq, Int.reduceAdd, Int.reduceSub, Int.reduceMul, Int.reduceNeg, ↓reduceIte, hmv, pl_at ps hml]
      refine ⟨by omega, CallN.pure hc ?_⟩
      simp only [go_sem, Nat.reduceAdd, Nat.reduceSub, Nat.reduceMul, Nat.reducePow, Nat.reduceEqDiff, Nat.reduceLT, Nat.reduceLeDiff, Nat.reduceBEq, Nat.reduceBNe, Int.reduceToNat, Int.reduceLT, Int.reduceLE, Int.reduceEq, Int.reduceBNe, Int.reduceBEq, Int.reduceAdd, Int.reduceSub, Int.reduceMul, Int.reduceNeg, ↓reduceIte]
      refine CondE.splitD (fun hb => ?_) (fun hb => ?_)
      · simp only [go_sem, Nat.reduceAdd, Nat.reduceSub, Nat.reduceMul, Nat.reducePow, Nat.reduceEqDiff, Nat.reduceLT, Nat.reduceLeDiff, Nat.reduceBEq, Nat.reduceBNe, Int.reduceToNat, Int.reduceLT, Int.reduceLE, Int.reduceEq, Int.reduceBNe, Int.reduceBEq, Int.reduceAdd, Int.reduceSub, Int.reduceMul, Int.reduceNeg, ↓reduceIte, hw]
        refine ⟨(m + 1, j), ⟨by show m + 1 ≤ j; omega, h2, ?_, h4⟩, ?_, by show j - (m + 1) < j - i; omega⟩
        · intro k hk hkm
          have hkm : k < m + 1 := hkm
          have hb := hlt.1 hb
          rcases Nat.lt_or_ge k m with h | h
          · have := hp k m hk hml h; omega
          · obtain rfl : k = m := by omega
            exact hb
        · simp only [go_sem, Nat.reduceAdd, Nat.reduceSub, Nat.reduceMul, Nat.reducePow, Nat.reduceEqDiff, Nat.reduceLT, Nat.reduceLeDiff, Nat.reduceBEq, Nat.reduceBNe, Int.reduceToNat, Int.reduceLT, Int.reduceLE, Int.reduceEq, Int.reduceBNe, Int.reduceBEq, Int.reduceAdd, Int.reduceSub, Int.reduceMul, Int.reduceNeg, ↓reduceIte] <;> simp
      · simp only [go_sem, Nat.reduceAdd, Nat.reduceSub, Nat.reduceMul, Nat.reducePow, Nat.reduceEqDiff, Nat.reduceLT, Nat.reduceLeDiff, Nat.reduceBEq, Nat.reduceBNe, Int.reduceToNat, Int.reduceLT, Int.reduceLE, Int.reduceEq, Int.reduceBNe, Int.reduceBEq, Int.reduceAdd, Int.reduceSub, Int.reduceMul, Int.reduceNeg, ↓reduceIte, hw]
        refine ⟨(i, m), ⟨by show i ≤ m; omega, by show m ≤ _; omega, h3, ?_⟩, ?_, by show m - i < j - i; omega⟩
        · intro k hk hkm
          have hkm : m ≤ k := hkm
          have hb : w * 8 + a ≤ ps[m].key := by
            rcases Int.lt_or_le ps[m].key (w * 8 + a) with h | h
            · exact (hb (hlt.2 h)).elim
            · exact h
          rcases Nat.lt_or_ge m k with h | h
          · have := hp m k hml hk h; omega
          · obtain rfl : k = m := by omega
            exact hb
        · simp only [go_sem, Nat.reduceAdd, Nat.reduceSub, Nat.reduceMul, Nat.reducePow, Nat.reduceEqDiff, Nat.reduceLT, Nat.reduceLeDiff, Nat.reduceBEq, Nat.reduceBNe, Int.reduceToNat, Int.reduceLT, Int.reduceLE, Int.reduceEq, Int.reduceBNe, Int.reduceBEq, Int.reduceAdd, Int.reduceSub, Int.reduceMul, Int.reduceNeg, ↓reduceIte] <;> simp
    · have hij : j ≤ i := by omega
      have h1 : i ≤ j := h1
      obtain rfl : i = j := by omega
      have h2 : i ≤ ps.length := h2
      have hpos := pos_unique hg.2 h2 (fun k hk h => h3 k hk h) (fun k hk h => h4 k hk h)
      have hat := isAt_eq (K := w * 8 + a) (ps := ps)
      rw [← hpos] at hat ⊢
      simp only [go_sem, Nat.reduceAdd, Nat.reduceSub, Nat.reduceMul, Nat.reducePow, Nat.reduceEqDiff, Nat.reduceLT, Nat.reduceLeDiff, Nat.reduceBEq, Nat.reduceBNe, Int.reduceToNat, Int.reduceLT, Int.reduceLE, Int.reduceEq, Int.reduceBNe, Int.reduceBEq, Int.reduceAdd, Int.reduceSub, Int.reduceMul, Int.reduceNeg, ↓reduceIte]
      refine WeakK.id ?_
      rcases Nat.lt_or_ge i ps.length with hil | hge
      · have hd : decide ((i : Int) < (ps.length : Int)) = true := by simp; omega
        rw [List.getElem?_eq_getElem hil] at hat
        have hc := cmp_spec ps[i] 0 w a
        have heq := cmpW_eq (hg.1 _ (List.getElem_mem hil)).1 hr
        simp only [go_sem, Nat.reduceAdd, Nat.reduceSub, Nat.reduceMul, Nat.reducePow, Nat.reduceEqDiff, Nat.reduceLT, Nat.reduceLeDiff, Nat.reduceBEq, Nat.reduceBNe, Int.reduceToNat, Int.reduceLT, Int.reduceLE, Int.reduceEq, Int.reduceBNe, Int.reduceBEq, Int.reduceAdd, Int.reduceSub, Int.reduceMul, Int.reduceNeg, ↓reduceIte, hd, pl_at ps hil]
        refine ⟨by omega, CallN.pure hc ?_⟩
        simp only [go_sem, Nat.reduceAdd, Nat.reduceSub, Nat.reduceMul, Nat.reducePow, Nat.reduceEqDiff, Nat.reduceLT, Nat.reduceLeDiff, Nat.reduceBEq, Nat.reduceBNe, Int.reduceToNat, Int.reduceLT, Int.reduceLE, Int.reduceEq, Int.reduceBNe, Int.reduceBEq, Int.reduceAdd, Int.reduceSub, Int.reduceMul, Int.reduceNeg, ↓reduceIte]
        rw [hat, Bool.eq_iff_iff]
        simp [heq]
      · have hd : decide ((i : Int) < (ps.length : Int)) = false := by simp; omega
        rw [List.getElem?_eq_none hge] at hat
        simp only [go_sem, Nat.reduceAdd, Nat.reduceSub, Nat.reduceMul, Nat.reducePow, Nat.reduceEqDiff, Nat.reduceLT, Nat.reduceLeDiff, Nat.reduceBEq, Nat.reduceBNe, Int.reduceToNat, Int.reduceLT, Int.reduceLE, Int.reduceEq, Int.reduceBNe, Int.reduceBEq, Int.reduceAdd, Int.reduceSub, Int.reduceMul, Int.reduceNeg, ↓reduceIte, hd, hat]
end Go.Proofs.Ytbllopdcbkeadaa
set_option linter.unusedSimpArgs false
set_option linter.unusedVariables false
namespace Go.Proofs.Ytbllopdcbkeadaa
open Go.Abs
theorem insert_spec (ps : List Plg) (w a n : Int) (i : Nat) (hl : ps.length < 2 ^ 30) (hi : i ≤ ps.length) :
    Abs.Spec Try.prog 30 [.own 3 (pl ps), .own 3 [[.int .i64 w, .int .i64 a, .int .i64 n]]] [.ref 0, .int .i64 i, .ref 1] [.undef, .undef, .own 3 (pl (ps.take i ++ [⟨w, a, n⟩] ++ ps.drop i))] (.ref 2) := by
  rcases Nat.lt_or_ge i ps.length with h | h
  · exact insert_mid ps ⟨w, a, n⟩ i hl h
  · obtain rfl : i = ps.length := by omega
    have := insert_end ps ⟨w, a, n⟩ hl
    rw [List.take_length, List.drop_length, List.append_nil]
    exact this
def changeE (ps : List Plg) (w a u : Int) : Int :=
  if checkB ps = false then 14 else if (rightB w a && decide (-1099511627776 ≤ u) && decide (u ≤ 1099511627776)) = false then 3 else
    if unitsL w a ps + u < 0 then 13 else if unitsL w a ps + u > 1099511627776 then 1 else 0
def changeL (ps : List Plg) (w a u : Int) : List Plg := if changeE ps w a u = 0 then chg w a (unitsL w a ps + u) ps else []
theorem unitsL_range {w a : Int} : ∀ {ps : List Plg}, (∀ p ∈ ps, p.ok) → 0 ≤ unitsL w a ps ∧ unitsL w a ps ≤ 1099511627776
  | [], _ => by simp [unitsL]
  | p :: r, h => by
    have h1 := (h p (by simp)).2
    have h2 := unitsL_range (w := w) (a := a) (ps := r) fun q hq => h q (by simp [hq])
    simp only [unitsL]; split <;> omega
theorem part_len {ps : List Plg} {i b : Nat} (h : i + b ≤ ps.length) : (ps.take i ++ ps.drop (i + b)).length = ps.length - b := by simp; omega
theorem part_take {ps : List Plg} {i b : Nat} (h : i ≤ ps.length) : (ps.take i ++ ps.drop (i + b)).take i = ps.take i := by
  have hl : (ps.take i).length = i := by simp; omega
  rw [List.take_append_of_le_length (by omega), List.take_of_length_le (by omega)]
theorem part_drop {ps : List Plg} {i b : Nat} (h : i ≤ ps.length) : (ps.take i ++ ps.drop (i + b)).drop i = ps.drop (i + b) := by
  have hl : (ps.take i).length = i := by simp; omega
  rw [List.drop_append_of_le_length (by omega), List.drop_eq_nil_of_le (by omega), List.nil_append]
theorem isAt_lt {K : Int} {ps : List Plg} (h : isAt K ps = true) : pos K ps < ps.length := by
  rw [isAt_eq] at h
  split at h
  · rename_i hh; exact (List.getElem?_eq_some_iff.1 hh).1
  · cases h
theorem change_spec (ps : List Plg) (w a u : Int) (hl : ps.length < 2 ^ 29) :
    Abs.Spec Try.prog 8 [] [.sl 3 (pl ps), .int .i64 w, .int .i64 a, .int .i64 u] [.own 3 (pl (changeL ps w a u))] (.tup [.ref 0, .int .i64 (changeE ps w a u)]) := by
  have hc := plg_check ps (by omega)
  have hr := rightB_spec w a
  have hu := units_spec w a ps (by omega)
  refine Abs.Spec.go (n := 69) (np := 4) (rs := [.tmp 8, .tmp 9]) mixed Try.func8 rfl rfl rfl rfl rfl (by simp) (by simp) ?_
  simp only [go_sem, Nat.reduceAdd, Nat.reduceSub, Nat.reduceMul, Nat.reducePow, Nat.reduceEqDiff, Nat.reduceLT, Nat.reduceLeDiff, Nat.reduceBEq, Nat.reduceBNe, Int.reduceToNat, Int.reduceLT, Int.reduceLE, Int.reduceEq, Int.reduceBNe, Int.reduceBEq, Int.reduceAdd, Int.reduceSub, Int.reduceMul, Int.reduceNeg, ↓reduceIte]
  refine CallN.pure hc ?_
  cases hk : checkB ps
  · have e1 : changeE ps w a u = 14 := by simp [changeE, hk]
    have e2 : changeL ps w a u = [] := by simp [changeL, e1]
    simp only [hk, go_sem, Nat.reduceAdd, Nat.reduceSub, Nat.reduceMul, Nat.reducePow, Nat.reduceEqDiff, Nat.reduceLT, Nat.reduceLeDiff, Nat.reduceBEq, Nat.reduceBNe, Int.reduceToNat, Int.reduceLT, Int.reduceLE, Int.reduceEq, Int.reduceBNe, Int.reduceBEq, Int.reduceAdd, Int.reduceSub, Int.reduceMul, Int.reduceNeg, ↓reduceIte, e1, e2]
    rfl
  have hg := check_good.1 hk
  have hur := unitsL_range (w := w) (a := a) hg.1
  simp only [hk, go_sem, Nat.reduceAdd, Nat.reduceSub, Nat.reduceMul, Nat.reducePow, Nat.reduceEqDiff, Nat.reduceLT, Nat.reduceLeDiff, Nat.reduceBEq, Nat.reduceBNe, Int.reduceToNat, Int.reduceLT, Int.reduceLE, Int.reduceEq, Int.reduceBNe, Int.reduceBEq, Int.reduceAdd, Int.reduceSub, Int.reduceMul, Int.reduceNeg, ↓reduceIte]
  refine CallN.pure hr ?_
  cases hrb : rightB w a
  · have e1 : changeE ps w a u = 3 := by simp [changeE, hk, hrb]
    have e2 : changeL ps w a u = [] := by simp [changeL, e1]
    simp only [go_sem, Nat.reduceAdd, Nat.reduceSub, Nat.reduceMul, Nat.reducePow, Nat.reduceEqDiff, Nat.reduceLT, Nat.reduceLeDiff, Nat.reduceBEq, Nat.reduceBNe, Int.reduceToNat, Int.reduceLT, Int.reduceLE, Int.reduceEq, Int.reduceBNe, Int.reduceBEq, Int.reduceAdd, Int.reduceSub, Int.reduceMul, Int.reduceNeg, ↓reduceIte, e1, e2]
    rfl
  rcases Int.lt_or_le u (-1099511627776) with h1 | h1
  · have e1 : changeE ps w a u = 3 := by simp [changeE, hk, hrb]; omega
    have e2 : changeL ps w a u = [] := by simp [changeL, e1]
    have d1 : decide (u < -1099511627776) = true := by simpa using h1
    simp only [go_sem, Nat.reduceAdd, Nat.reduceSub, Nat.reduceMul, Nat.reducePow, Nat.reduceEqDiff, Nat.reduceLT, Nat.reduceLeDiff, Nat.reduceBEq, Nat.reduceBNe, Int.reduceToNat, Int.reduceLT, Int.reduceLE, Int.reduceEq, Int.reduceBNe, Int.reduceBEq, Int.reduceAdd, Int.reduceSub, Int.reduceMul, Int.reduceNeg, ↓reduceIte, e1, e2, d1]
    rfl
  have d1 : decide (u < -1099511627776) = false := by simpa using h1
  rcases Int.lt_or_le 1099511627776 u with h2 | h2
  · have e1 : changeE ps w a u = 3 := by simp [changeE, hk, hrb]; omega
    have e2 : changeL ps w a u = [] := by simp [changeL, e1]
    have d2 : decide (1099511627776 < u) = true := by simpa using h2
    simp only [go_sem, Nat.reduceAdd, Nat.reduceSub, Nat.reduceMul, Nat.reducePow, Nat.reduceEqDiff, Nat.reduceLT, Nat.reduceLeDiff, Nat.reduceBEq, Nat.reduceBNe, Int.reduceToNat, Int.reduceLT, Int.reduceLE, Int.reduceEq, Int.reduceBNe, Int.reduceBEq, Int.reduceAdd, Int.reduceSub, Int.reduceMul, Int.reduceNeg, ↓reduceIte, e1, e2, d1, d2]
    rfl
  have d2 : decide (1099511627776 < u) = false := by simpa using h2
  simp only [go_sem, Nat.reduceAdd, Nat.reduceSub, Nat.reduceMul, Nat.reducePow, Nat.reduceEqDiff, Nat.reduceLT, Nat.reduceLeDiff, Nat.reduceBEq, Nat.reduceBNe, Int.reduceToNat, Int.reduceLT, Int.reduceLE, Int.reduceEq, Int.reduceBNe, Int.reduceBEq, Int.reduceAdd, Int.reduceSub, Int.reduceMul, Int.reduceNeg, ↓reduceIte, d1, d2]
  refine CallN.pure hu ?_
  obtain ⟨n, hn⟩ : ∃ n, n = unitsL w a ps + u := ⟨_, rfl⟩
  have hw : IntKind.wrap .i64 (unitsL w a ps + u) = n := by rw [wr64 (by omega) (by omega), hn]
  rcases Int.lt_or_le n 0 with h3 | h3
  · have e1 : changeE ps w a u = 13 := by simp [changeE, hk, hrb]; omega
    have e2 : changeL ps w a u = [] := by simp [changeL, e1]
    have d3 : decide (n < 0) = true := by simpa using h3
    simp only [go_sem, Nat.reduceAdd, Nat.reduceSub, Nat.reduceMul, Nat.reducePow, Nat.reduceEqDiff, Nat.reduceLT, Nat.reduceLeDiff, Nat.reduceBEq, Nat.reduceBNe, Int.reduceToNat, Int.reduceLT, Int.reduceLE, Int.reduceEq, Int.reduceBNe, Int.reduceBEq, Int.reduceAdd, Int.reduceSub, Int.reduceMul, Int.reduceNeg, ↓reduceIte, hw, e1, e2, d3]
    rfl
  have d3 : decide (n < 0) = false := by simpa using h3
  rcases Int.lt_or_le 1099511627776 n with h4 | h4
  · have e1 : changeE ps w a u = 1 := by simp [changeE, hk, hrb]; omega
    have e2 : changeL ps w a u = [] := by simp [changeL, e1]
    have d4 : decide (1099511627776 < n) = true := by simpa using h4
    simp only [go_sem, Nat.reduceAdd, Nat.reduceSub, Nat.reduceMul, Nat.reducePow, Nat.reduceEqDiff, Nat.reduceLT, Nat.reduceLeDiff, Nat.reduceBEq, Nat.reduceBNe, Int.reduceToNat, Int.reduceLT, Int.reduceLE, Int.reduceEq, Int.reduceBNe, Int.reduceBEq, Int.reduceAdd, Int.reduceSub, Int.reduceMul, Int.reduceNeg, ↓reduceIte, hw, e1, e2, d3, d4]
    rfl
  have d4 : decide (1099511627776 < n) = false := by simpa using h4
  have e1 : changeE ps w a u = 0 := by simp [changeE, hk, hrb]; omega
  have e2 : changeL ps w a u = chg w a n ps := by simp [changeL, e1, hn]
  simp only [go_sem, Nat.reduceAdd, Nat.reduceSub, Nat.reduceMul, Nat.reducePow, Nat.reduceEqDiff, Nat.reduceLT, Nat.reduceLeDiff, Nat.reduceBEq, Nat.reduceBNe, Int.reduceToNat, Int.reduceLT, Int.reduceLE, Int.reduceEq, Int.reduceBNe, Int.reduceBEq, Int.reduceAdd, Int.reduceSub, Int.reduceMul, Int.reduceNeg, ↓reduceIte, hw, d3, d4]
  refine CallN.gen [] [] true (by simp) ?_
  simp only [go_sem, Nat.reduceAdd, Nat.reduceSub, Nat.reduceMul, Nat.reducePow, Nat.reduceEqDiff, Nat.reduceLT, Nat.reduceLeDiff, Nat.reduceBEq, Nat.reduceBNe, Int.reduceToNat, Int.reduceLT, Int.reduceLE, Int.reduceEq, Int.reduceBNe, Int.reduceBEq, Int.reduceAdd, Int.reduceSub, Int.reduceMul, Int.reduceNeg, ↓reduceIte]
  refine CallG.intro (search_spec ps w a (by omega) hg hrb) ?_
  simp only [go_sem, Nat.reduceAdd, Nat.reduceSub, Nat.reduceMul, Nat.reducePow, Nat.reduceEqDiff, Nat.reduceLT, Nat.reduceLeDiff, Nat.reduceBEq, Nat.reduceBNe, Int.reduceToNat, Int.reduceLT, Int.reduceLE, Int.reduceEq, Int.reduceBNe, Int.reduceBEq, Int.reduceAdd, Int.reduceSub, Int.reduceMul, Int.reduceNeg, ↓reduceIte]
  refine CallN.gen [] [] false (by simp) ?_
  simp only [go_sem, Nat.reduceAdd, Nat.reduceSub, Nat.reduceMul, Nat.reducePow, Nat.reduceEqDiff, Nat.reduceLT, Nat.reduceLeDiff, Nat.reduceBEq, Nat.reduceBNe, Int.reduceToNat, Int.reduceLT, Int.reduceLE, Int.reduceEq, Int.reduceBNe, Int.reduceBEq, Int.reduceAdd, Int.reduceSub, Int.reduceMul, Int.reduceNeg, ↓reduceIte]
  refine CallG.intro (clone_spec ps (by omega)) ?_
  simp only [go_sem, Nat.reduceAdd, Nat.reduceSub, Nat.reduceMul, Nat.reducePow, Nat.reduceEqDiff, Nat.reduceLT, Nat.reduceLeDiff, Nat.reduceBEq, Nat.reduceBNe, Int.reduceToNat, Int.reduceLT, Int.reduceLE, Int.reduceEq, Int.reduceBNe, Int.reduceBEq, Int.reduceAdd, Int.reduceSub, Int.reduceMul, Int.reduceNeg, ↓reduceIte]
  rw [e1, e2, chg_eq]
  have hple := pos_le (w * 8 + a) ps
  obtain ⟨m, hm⟩ : ∃ m, m = pos (w * 8 + a) ps := ⟨_, rfl⟩
  rw [← hm] at hple ⊢
  have hwm : IntKind.wrap .i64 ((m : Int) + 1) = ((m + 1 : Nat) : Int) := by rw [wr64 (by omega) (by omega)]; omega
  cases hat : isAt (w * 8 + a) ps
  · rcases Int.lt_or_le 0 n with h5 | h5
    · have d5 : decide (0 < n) = true := by simpa using h5
      simp only [go_sem, Nat.reduceAdd, Nat.reduceSub, Nat.reduceMul, Nat.reducePow, Nat.reduceEqDiff, Nat.reduceLT, Nat.reduceLeDiff, Nat.reduceBEq, Nat.reduceBNe, Int.reduceToNat, Int.reduceLT, Int.reduceLE, Int.reduceEq, Int.reduceBNe, Int.reduceBEq, Int.reduceAdd, Int.reduceSub, Int.reduceMul, Int.reduceNeg, ↓reduceIte, d5]
      refine CallN.gen [] [832, 1072] false (by simp) ?_
      simp only [go_sem, Nat.reduceAdd, Nat.reduceSub, Nat.reduceMul, Nat.reducePow, Nat.reduceEqDiff, Nat.reduceLT, Nat.reduceLeDiff, Nat.reduceBEq, Nat.reduceBNe, Int.reduceToNat, Int.reduceLT, Int.reduceLE, Int.reduceEq, Int.reduceBNe, Int.reduceBEq, Int.reduceAdd, Int.reduceSub, Int.reduceMul, Int.reduceNeg, ↓reduceIte]
      refine CallG.intro (insert_spec ps w a n m (by omega) hple) ?_
      simp only [go_sem, Nat.reduceAdd, Nat.reduceSub, Nat.reduceMul, Nat.reducePow, Nat.reduceEqDiff, Nat.reduceLT, Nat.reduceLeDiff, Nat.reduceBEq, Nat.reduceBNe, Int.reduceToNat, Int.reduceLT, Int.reduceLE, Int.reduceEq, Int.reduceBNe, Int.reduceBEq, Int.reduceAdd, Int.reduceSub, Int.reduceMul, Int.reduceNeg, ↓reduceIte]
      simp [h5]
    · have d5 : decide (0 < n) = false := by simpa using h5
      have h5' : ¬ n > 0 := by omega
      simp only [go_sem, Nat.reduceAdd, Nat.reduceSub, Nat.reduceMul, Nat.reducePow, Nat.reduceEqDiff, Nat.reduceLT, Nat.reduceLeDiff, Nat.reduceBEq, Nat.reduceBNe, Int.reduceToNat, Int.reduceLT, Int.reduceLE, Int.reduceEq, Int.reduceBNe, Int.reduceBEq, Int.reduceAdd, Int.reduceSub, Int.reduceMul, Int.reduceNeg, ↓reduceIte, d5]
      simp [h5']
  · have hml := isAt_lt hat
    rw [← hm] at hml
    have hpl := part_len (ps := ps) (i := m) (b := 1) (by omega)
    have hpt := part_take (ps := ps) (i := m) (b := 1) (by omega)
    have hpd := part_drop (ps := ps) (i := m) (b := 1) (by omega)
    simp only [go_sem, Nat.reduceAdd, Nat.reduceSub, Nat.reduceMul, Nat.reducePow, Nat.reduceEqDiff, Nat.reduceLT, Nat.reduceLeDiff, Nat.reduceBEq, Nat.reduceBNe, Int.reduceToNat, Int.reduceLT, Int.reduceLE, Int.reduceEq, Int.reduceBNe, Int.reduceBEq, Int.reduceAdd, Int.reduceSub, Int.reduceMul, Int.reduceNeg, ↓reduceIte, hwm]
    refine CallN.gen [] [832] false (by simp) ?_
    simp only [go_sem, Nat.reduceAdd, Nat.reduceSub, Nat.reduceMul, Nat.reducePow, Nat.reduceEqDiff, Nat.reduceLT, Nat.reduceLeDiff, Nat.reduceBEq, Nat.reduceBNe, Int.reduceToNat, Int.reduceLT, Int.reduceLE, Int.reduceEq, Int.reduceBNe, Int.reduceBEq, Int.reduceAdd, Int.reduceSub, Int.reduceMul, Int.reduceNeg, ↓reduceIte]
    refine CallG.intro (delete_spec ps m (m + 1) (by omega) (by omega) (by omega)) ?_
    simp only [go_sem, Nat.reduceAdd, Nat.reduceSub, Nat.reduceMul, Nat.reducePow, Nat.reduceEqDiff, Nat.reduceLT, Nat.reduceLeDiff, Nat.reduceBEq, Nat.reduceBNe, Int.reduceToNat, Int.reduceLT, Int.reduceLE, Int.reduceEq, Int.reduceBNe, Int.reduceBEq, Int.reduceAdd, Int.reduceSub, Int.reduceMul, Int.reduceNeg, ↓reduceIte]
    rcases Int.lt_or_le 0 n with h5 | h5
    · have d5 : decide (0 < n) = true := by simpa using h5
      simp only [go_sem, Nat.reduceAdd, Nat.reduceSub, Nat.reduceMul, Nat.reducePow, Nat.reduceEqDiff, Nat.reduceLT, Nat.reduceLeDiff, Nat.reduceBEq, Nat.reduceBNe, Int.reduceToNat, Int.reduceLT, Int.reduceLE, Int.reduceEq, Int.reduceBNe, Int.reduceBEq, Int.reduceAdd, Int.reduceSub, Int.reduceMul, Int.reduceNeg, ↓reduceIte, d5]
      refine CallN.gen [] [928, 1072] false (by simp) ?_
      simp only [go_sem, Nat.reduceAdd, Nat.reduceSub, Nat.reduceMul, Nat.reducePow, Nat.reduceEqDiff, Nat.reduceLT, Nat.reduceLeDiff, Nat.reduceBEq, Nat.reduceBNe, Int.reduceToNat, Int.reduceLT, Int.reduceLE, Int.reduceEq, Int.reduceBNe, Int.reduceBEq, Int.reduceAdd, Int.reduceSub, Int.reduceMul, Int.reduceNeg, ↓reduceIte]
      refine CallG.intro (insert_spec (ps.take m ++ ps.drop (m + 1)) w a n m (by omega) (by omega)) ?_
      simp only [go_sem, Nat.reduceAdd, Nat.reduceSub, Nat.reduceMul, Nat.reducePow, Nat.reduceEqDiff, Nat.reduceLT, Nat.reduceLeDiff, Nat.reduceBEq, Nat.reduceBNe, Int.reduceToNat, Int.reduceLT, Int.reduceLE, Int.reduceEq, Int.reduceBNe, Int.reduceBEq, Int.reduceAdd, Int.reduceSub, Int.reduceMul, Int.reduceNeg, ↓reduceIte, hpt, hpd]
      simp [h5]
    · have d5 : decide (0 < n) = false := by simpa using h5
      have h5' : ¬ n > 0 := by omega
      simp only [go_sem, Nat.reduceAdd, Nat.reduceSub, Nat.reduceMul, Nat.reducePow, Nat.reduceEqDiff, Nat.reduceLT, Nat.reduceLeDiff, Nat.reduceBEq, Nat.reduceBNe, Int.reduceToNat, Int.reduceLT, Int.reduceLE, Int.reduceEq, Int.reduceBNe, Int.reduceBEq, Int.reduceAdd, Int.reduceSub, Int.reduceMul, Int.reduceNeg, ↓reduceIte, d5]
      simp [h5']
end Go.Proofs.Ytbllopdcbkeadaa
