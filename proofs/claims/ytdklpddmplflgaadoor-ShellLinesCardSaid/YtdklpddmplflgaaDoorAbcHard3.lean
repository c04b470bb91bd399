/- An own slice that a callee takes as a box; no theorem of a claim. -/
import Derived.Test.YtdklpddmplflgaaDoorAbcHard2
set_option linter.unusedSimpArgs false
set_option linter.unusedVariables false
namespace Go.Abs
section
variable {P : Program}
def boxOf (rows : List (List D)) (cap z : Nat) : List D := rows.flatten ++ List.replicate ((cap - rows.length) * z) .undef
theorem boxOf_len {rows : List (List D)} {cap z : Nat} (h : ∀ r ∈ rows, r.length = z) (hl : rows.length ≤ cap) : (boxOf rows cap z).length = cap * z := by
  simp only [boxOf, List.length_append, flatR_len h, List.length_replicate]
  rw [← Nat.add_mul]; congr 1; omega
def dyn (k : Nat) (X : D) : List D := .undef :: (List.replicate k .undef ++ [X])
theorem dyn_get (k : Nat) (X : D) (r : Nat) : (dyn k X).getD r .undef = if r = k + 1 then X else .undef := by
  unfold dyn
  cases r with
  | zero => simp
  | succ r =>
    simp only [List.getD_eq_getElem?_getD, List.getElem?_cons_succ]
    by_cases h : r < k
    · rw [List.getElem?_append_left (by simpa using h), if_neg (by omega)]; simp [h]
    · rw [List.getElem?_append_right (by simpa using h)]
      simp only [List.length_replicate]
      by_cases h2 : r = k
      · subst h2; simp
      · rw [if_neg (by omega)]
        have : r - k = (r - k - 1) + 1 := by omega
        rw [this]; simp
theorem one_get (k : Nat) (X : D) (r : Nat) : (X :: List.replicate k .undef).getD r .undef = if r = 0 then X else .undef := by
  cases r with
  | zero => simp
  | succ r =>
    simp only [List.getD_eq_getElem?_getD, List.getElem?_cons_succ, List.getElem?_replicate]
    split <;> simp
theorem Spec.of_box {f : FuncId} {z : Nat} {rows R : List (List D)} {hr ds : List D} (hne : rows ≠ []) (hRz : ∀ r ∈ R, r.length = z) (hRp : ∀ r ∈ R, ∀ d ∈ r, permOk d) (hds : ∀ d ∈ ds, 0 ∉ d.names) (hhr : ∀ h ∈ hr, ∃ z' rows', h = .own z' rows')
    (h : ∀ cap, rows.length ≤ cap → (∃ cs, R.length ≤ cap ∧ cs.length = cap * z ∧ cs.take (R.length * z) = R.flatten ∧ Spec P f (.box (boxOf rows cap z) :: hr) (.bsub 0 0 z rows.length cap :: ds) (.box cs :: List.replicate hr.length .undef) (.bsub 0 0 z R.length cap)) ∨
      Spec P f (.box (boxOf rows cap z) :: hr) (.bsub 0 0 z rows.length cap :: ds) (dyn hr.length (.own z R)) (.ref (hr.length + 1))) :
    Spec P f (.own z rows :: hr) (.ref 0 :: ds) (dyn hr.length (.own z R)) (.ref (hr.length + 1)) := by
  have hent : Enters P f := by
    rcases h rows.length (Nat.le_refl _) with ⟨_, _, _, _, hs⟩ | hs
    · exact hs.1
    · exact hs.1
  refine ⟨hent, ?_⟩
  intro w l0 G0 own0 S0 vs hT hl hG hs hrep hob
  have hob0 := hob 0
  simp only [List.getD_cons_zero] at hob0
  rcases hob0 with ⟨_, _, hnil⟩ | ⟨b, c, E, cap, h1, h2, h3, h4, h5, h6, h7, h8, h9, h10⟩
  · exact (hne hnil).elim
  obtain ⟨S1, hS1⟩ : ∃ S1, S1 = setO S0 0 (some (.pointer (some ⟨b, 0, none⟩))) := ⟨_, rfl⟩
  have hS10 : S1 0 = some (.pointer (some ⟨b, 0, none⟩)) := by rw [hS1]; exact setO_same _ _ _
  have hS1n : ∀ r, r ≠ 0 → S1 r = S0 r := fun r hr => by rw [hS1]; exact setO_ne _ _ hr
  have hblt := lt_of_block h2
  have hgb : ∃ lo hi, G0 b = some (lo, hi) ∧ lo ≤ 0 ∧ c.size ≤ hi := by
    rcases h9 with h9 | ⟨lo, hi, g1, g2, g3⟩
    · omega
    · exact ⟨lo, hi, g1, g2, g3⟩
  have hrep' : ∀ (i : Nat) v x, vs[i]? = some v → (D.bsub 0 0 z rows.length cap :: ds)[i]? = some x → RepV (cx w l0 S1) v x := by
    intro i v x hv hx
    cases i with
    | zero =>
      have hx' : D.bsub 0 0 z rows.length cap = x := by simpa using hx
      subst hx'
      obtain ⟨g1, a, len, cp, rfl⟩ := (hrep 0 v (.ref 0) hv rfl).ref_inv
      have g1 : S0 0 = _ := g1
      rw [h1] at g1
      cases g1
      exact .bsub 0 0 z _ _ ⟨b, 0, none⟩ _ hS10 (fun _ => by simp [Addr.add]) h4
    | succ i =>
      have hx' : ds[i]? = some x := by simpa using hx
      refine (hrep (i + 1) v x hv (by simpa using hx)).vkeep (.refl _ _) ?_
      intro s hsn u hu
      rw [hS1n s ?_]; exact hu
      rintro rfl
      exact hds x (List.mem_of_getElem? hx') hsn
  have hob' : ∀ r, ObjAt w.heap.size G0 w l0 own0 S1 r ((D.box (boxOf rows cap z) :: hr).getD r .undef) := by
    intro r
    cases r with
    | zero =>
      simp only [List.getD_cons_zero]
      refine ⟨b, 0, c, E, hS10, h2, by rw [boxOf_len h5 h4]; omega, h7, h8, by rw [boxOf_len h5 h4, ← h3, Nat.zero_add]; exact h9, ?_⟩
      intro j u e hu he
      rw [Nat.zero_add] at hu
      unfold boxOf at he
      by_cases hj : j < rows.flatten.length
      · rw [List.getElem?_append_left hj] at he
        by_cases hz : z = 0
        · rw [flatR_len h5, hz] at hj; omega
        rw [flat_at hz h5] at he
        cases hi : rows[j / z]? with
        | none => rw [hi] at he; cases he
        | some row =>
          rw [hi] at he
          obtain ⟨u', hu', hru⟩ := h10 _ _ row e hi he
          have em : j / z * z + j % z = j := by rw [Nat.mul_comm]; exact Nat.div_add_mod j z
          rw [em, hu] at hu'
          cases hu'
          have hnn : e.names = [] := (h6 row (List.mem_of_getElem? hi) e (List.mem_of_getElem? he)).2
          exact hru.vkeep (.refl _ _) (by rw [hnn]; simp)
      · rw [List.getElem?_append_right (by omega), List.getElem?_replicate] at he
        split at he
        · cases he; exact .undef _
        · cases he
    | succ r =>
      have hb := hob (r + 1)
      simp only [List.getD_cons_succ] at hb ⊢
      by_cases hlt : r < hr.length
      · have hg : hr.getD r .undef = hr[r] := by simp [List.getD, hlt]
        rw [hg] at hb ⊢
        obtain ⟨z', rows', e⟩ := hhr _ (List.getElem_mem hlt)
        rw [e] at hb ⊢
        rcases hb with ⟨a, p1, p2⟩ | ⟨b', c', E', cap', p1, p2, p3, p4, p5, p6, p7, p8, p9, p10⟩
        · exact .inl ⟨a, by rw [hS1n _ (by omega)]; exact p1, p2⟩
        · refine .inr ⟨b', c', E', cap', by rw [hS1n _ (by omega)]; exact p1, p2, p3, p4, p5, p6, p7, p8, p9, ?_⟩
          intro i j row x hi hj
          obtain ⟨u, hu, hru⟩ := p10 i j row x hi hj
          have hnn : x.names = [] := (p6 row (List.mem_of_getElem? hi) x (List.mem_of_getElem? hj)).2
          exact ⟨u, hu, hru.vkeep (.refl _ _) (by rw [hnn]; simp)⟩
      · have hg : hr.getD r .undef = .undef := by simp [List.getD, hlt]
        rw [hg] at hb ⊢
        show S1 (r + 1) = none
        rw [hS1n _ (by omega)]; exact hb
  rcases h cap h4 with ⟨cs, hRl, hcl, hct, hsp⟩ | hsp
  · refine (hsp.2 w l0 G0 own0 S1 vs hT hl hG (by simpa using hs) hrep' hob').mono ?_
    rintro e w' ⟨v, rfl, ho⟩
    refine ⟨v, rfl, ho.os, ho.tape, ho.output, ho.size, ho.old, ho.part, ?_⟩
    obtain ⟨lev, own, S, g1, g2, g3, g4, g5⟩ := ho.rep
    have hb0 := g4 0
    rw [one_get, if_pos rfl] at hb0
    obtain ⟨b', o', c', E', q1, q2, q3, q4, q5, q6, q7⟩ := hb0
    have hs0 : S 0 = S1 0 := g5 0 (by simp) (by rw [one_get, if_pos rfl]; simp)
    rw [hs0, hS10] at q1
    cases q1
    obtain ⟨lo, hi, k1, k2, k3⟩ := hgb
    obtain ⟨c0, c1, E1, m1, m2, m3, -⟩ := ho.part b lo hi k1
    rw [h2] at m1
    cases m1
    rw [q2] at m2
    cases m2
    obtain ⟨ad, a', cap', hS, rfl, y3, y4, y5, e6, y6⟩ := g3.bsub_inv
    have hS : S 0 = _ := hS
    rw [hs0, hS10] at hS
    cases hS
    subst e6
    have hlen : 0 < rows.length := List.length_pos_iff.2 hne
    have ha' := y6 (by omega)
    subst ha'
    refine ⟨lev, setO own b (some (hr.length + 1)), setO (setO S 0 none) (hr.length + 1) (some (.slice (some ⟨b, 0, none⟩) R.length cap')), g1, g2, ?_, ?_, ?_⟩
    · exact .ref _ _ _ _ (by show setO _ _ _ _ = _; rw [setO_same]; simp [Addr.add])
    · intro r
      rw [dyn_get]
      by_cases hrk : r = hr.length + 1
      · subst hrk
        rw [if_pos rfl]
        refine .inr ⟨b, c', _, cap', setO_same _ _ _, q2, by rw [m3, h3], hRl, hRz, hRp, q4, setO_same _ _ _, by rw [m3]; exact h9, ?_⟩
        intro i j row x hi hj
        have hjz : j < z := by rw [← hRz row (List.mem_of_getElem? hi)]; exact (List.getElem?_eq_some_iff.1 hj).1
        have hil : i < R.length := (List.getElem?_eq_some_iff.1 hi).1
        have hlt := idx_lt hjz hil
        have hz : z ≠ 0 := by omega
        have hcx : cs[i * z + j]? = some x := by
          rw [← List.getElem?_take_of_lt hlt, hct, flat_at hz hRz]
          have e1 : (i * z + j) / z = i := by rw [Nat.mul_comm, Nat.mul_add_div (by omega), Nat.div_eq_of_lt hjz]; rfl
          have e2 : (i * z + j) % z = j := by rw [Nat.mul_comm, Nat.mul_add_mod, Nat.mod_eq_of_lt hjz]
          rw [e1, e2, hi]; exact hj
        have hcl' : i * z + j < cs.length := (List.getElem?_eq_some_iff.1 hcx).1
        have hcl2 : i * z + j < c'.size := by omega
        refine ⟨c'[i * z + j], by simp [hcl2], ?_⟩
        have hnn : x.names = [] := (hRp row (List.mem_of_getElem? hi) x (List.mem_of_getElem? hj)).2
        exact (q7 (i * z + j) _ x (by rw [Nat.zero_add]; simp [hcl2]) hcx).vkeep (.refl _ _) (by rw [hnn]; simp)
      · rw [if_neg hrk]
        show setO _ _ _ r = none
        rw [setO_ne _ _ hrk]
        by_cases hr0 : r = 0
        · subst hr0; exact setO_same _ _ _
        · rw [setO_ne _ _ hr0]
          have := g4 r
          rw [one_get, if_neg hr0] at this
          exact this
    · intro i hi hne'
      rw [dyn_get, if_neg (by simp at hi; omega)] at hne'
      exact (hne' rfl).elim
  · refine (hsp.2 w l0 G0 own0 S1 vs hT hl hG (by simpa using hs) hrep' hob').mono ?_
    rintro e w' ⟨v, rfl, ho⟩
    refine ⟨v, rfl, ho.os, ho.tape, ho.output, ho.size, ho.old, ho.part, ?_⟩
    obtain ⟨lev, own, S, g1, g2, g3, g4, g5⟩ := ho.rep
    refine ⟨lev, own, S, g1, g2, g3, g4, ?_⟩
    intro i hi hne'
    rw [dyn_get, if_neg (by simp at hi; omega)] at hne'
    exact (hne' rfl).elim
end
theorem rowsOf_flat {z : Nat} : ∀ {R : List (List D)} {cs : List D}, (∀ r ∈ R, r.length = z) → cs.take (R.length * z) = R.flatten → rowsOf z R.length cs = R
  | [], _, _, _ => rfl
  | r :: R, cs, h, ht => by
    have hr := h r (by simp)
    have hR : ∀ r ∈ R, r.length = z := fun x hx => h x (by simp [hx])
    simp only [List.length_cons, rowsOf]
    rw [List.flatten_cons, List.length_cons, Nat.succ_mul] at ht
    have h1 : cs.take z = r := by
      have := congrArg (List.take z) ht
      rw [List.take_take, Nat.min_eq_left (by omega)] at this
      rw [this, ← hr, List.take_left]
    have h2 : (cs.drop z).take (R.length * z) = R.flatten := by
      have := congrArg (List.drop z) ht
      rw [List.drop_take, Nat.add_sub_cancel, ← hr, List.drop_left] at this
      rw [← hr]; exact this
    rw [h1, rowsOf_flat hR h2]
theorem permB_of {d : D} (h : permOk d) : permB d = true := by
  obtain ⟨h1, h2⟩ := h
  cases d <;> simp only [permB] <;> first | exact h1.elim | (simp [D.names] at h2; done) | simpa using h2
theorem bor_box {z off : Nat} {cs : List D} {R : List (List D)} (h : (cs.drop off).take (R.length * z) = R.flatten) (hz : ∀ r ∈ R, r.length = z) (hp : ∀ r ∈ R, ∀ d ∈ r, permOk d) (hl : off + R.length * z ≤ cs.length) : borBs off z R.length (.box cs) = .sl z R := by
  have hall : ((cs.drop off).take (R.length * z)).all permB = true := by
    rw [h, List.all_eq_true]
    intro d hd
    obtain ⟨r, hr, hd⟩ := List.mem_flatten.1 hd
    exact permB_of (hp r hr d hd)
  unfold borBs
  simp only [hall, hl, decide_true, Bool.and_self, if_true]
  rw [rowsOf_flat hz h]
theorem boxOf_part {rows : List (List D)} {cap z i m : Nat} (hz : ∀ r ∈ rows, r.length = z) (h : i + m ≤ rows.length) : ((boxOf rows cap z).drop (i * z)).take (m * z) = ((rows.drop i).take m).flatten := by
  have hd : ∀ r ∈ rows.drop i, r.length = z := fun r hr => hz r (List.mem_of_mem_drop hr)
  have hl := flatR_len hz
  have hm : (i + m) * z ≤ rows.length * z := Nat.mul_le_mul_right z h
  rw [Nat.add_mul] at hm
  unfold boxOf
  rw [List.drop_append_of_le_length (by omega), flat_drop i hz, List.take_append_of_le_length (by rw [flatR_len hd, List.length_drop, Nat.sub_mul]; omega), flat_take m hd]
theorem bor_boxOf {rows : List (List D)} {cap z i : Nat} (hz : ∀ r ∈ rows, r.length = z) (hp : ∀ r ∈ rows, ∀ d ∈ r, permOk d) (hi : i ≤ rows.length) (hc : rows.length ≤ cap) : borBs (i * z) z (rows.length - i) (.box (boxOf rows cap z)) = .sl z (rows.drop i) := by
  have hd : ∀ r ∈ rows.drop i, r.length = z := fun r hr => hz r (List.mem_of_mem_drop hr)
  have hl : (rows.drop i).length = rows.length - i := by simp
  rw [← hl]
  refine bor_box ?_ hd (fun r hr => hp r (List.mem_of_mem_drop hr)) ?_
  · rw [boxOf_part hz (by omega), List.take_of_length_le (Nat.le_refl _)]
  · rw [boxOf_len hz hc, hl, ← Nat.add_mul]
    exact Nat.mul_le_mul_right z (by omega)
theorem take_wput_le {cs ds : List D} {off m : Nat} (h : m ≤ off) (ho : off ≤ cs.length) : (wput cs off ds).take m = cs.take m := by
  unfold wput
  rw [List.append_assoc, List.take_append_of_le_length (by simp; omega), List.take_take, Nat.min_eq_left h]
theorem take_wput_full {cs ds : List D} {off : Nat} (ho : off ≤ cs.length) : (wput cs off ds).take (off + ds.length) = cs.take off ++ ds := by
  unfold wput
  have : (cs.take off ++ ds).length = off + ds.length := by simp; omega
  rw [← this, List.take_left]
theorem boxOf_take {rows : List (List D)} {cap z i : Nat} (hz : ∀ r ∈ rows, r.length = z) (h : i ≤ rows.length) : (boxOf rows cap z).take (i * z) = (rows.take i).flatten := by
  have := boxOf_part (cap := cap) (i := 0) (m := i) hz (by omega)
  simpa using this
theorem mem_wput {cs ds : List D} {off : Nat} {d : D} (h : d ∈ wput cs off ds) : d ∈ cs ∨ d ∈ ds := by
  unfold wput at h
  simp only [List.mem_append] at h
  rcases h with (h | h) | h
  · exact .inl (List.mem_of_mem_take h)
  · exact .inr h
  · exact .inl (List.mem_of_mem_drop h)
/-- data that is the same under any names -/
def leafB : D → Bool
  | .undef | .bool _ | .int _ _ | .str _ | .nil | .emp | .nilfn | .nilif | .someif | .nilp | .sl _ _ | .eaddr _ => true
  | _ => false
theorem leD_leaf {rh : Nat → Option Nat} {lv : Nat → Bool} {d : D} (h : leafB d = true) : leD rh lv d d := by
  cases d <;> first | (cases h; done) | simp [leD]
theorem leDL_leaf {rh : Nat → Option Nat} {lv : Nat → Bool} : ∀ {X : List D}, (∀ d ∈ X, leafB d = true) → leDL rh lv X X
  | [], _ => by simp [leDL]
  | d :: X, h => by
    simp only [leDL]
    exact ⟨leD_leaf (h d (by simp)), leDL_leaf fun x hx => h x (by simp [hx])⟩
theorem boxOf_leaf {rows : List (List D)} {cap z : Nat} (h : ∀ r ∈ rows, ∀ d ∈ r, leafB d = true) : ∀ d ∈ boxOf rows cap z, leafB d = true := by
  intro d hd
  unfold boxOf at hd
  rcases List.mem_append.1 hd with hd | hd
  · obtain ⟨r, hr, hd⟩ := List.mem_flatten.1 hd
    exact h r hr d hd
  · rw [(List.mem_replicate.1 hd).2]; rfl
theorem flat_leaf {rows : List (List D)} (h : ∀ r ∈ rows, ∀ d ∈ r, leafB d = true) : ∀ d ∈ rows.flatten, leafB d = true := by
  intro d hd
  obtain ⟨r, hr, hd⟩ := List.mem_flatten.1 hd
  exact h r hr d hd
theorem wput_leaf {cs ds : List D} {off : Nat} (h1 : ∀ d ∈ cs, leafB d = true) (h2 : ∀ d ∈ ds, leafB d = true) : ∀ d ∈ wput cs off ds, leafB d = true := by
  intro d hd
  rcases mem_wput hd with h | h
  · exact h1 d h
  · exact h2 d h
end Go.Abs
