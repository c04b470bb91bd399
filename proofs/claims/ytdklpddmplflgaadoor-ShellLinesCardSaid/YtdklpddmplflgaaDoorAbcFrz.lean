/- Objects that are let go for good: they may be read from then on, and nothing more; no theorem of a claim. -/
import Derived.Test.YtdklpddmplflgaaDoorAbcSpec
set_option linter.unusedSimpArgs false
set_option linter.unusedVariables false
namespace Go.Abs

def frzLeaf (b : Bool) (x d : D) : D := if b then x else d
mutual
def frzD (o : D) (r : Nat) : D → D
  | .fn g cs => .fn g (frzDL o r cs)
  | .agg cs => .agg (frzDL o r cs)
  | .tup cs => .tup (frzDL o r cs)
  | .box cs => .box (frzDL o r cs)
  | .ref s => frzLeaf (s == r) (borSl o) (.ref s)
  | .addr s off => frzLeaf (s == r) (borBox plain0 off o) (.addr s off)
  | .oaddr s z i k => frzLeaf (s == r) (borEa z i k o) (.oaddr s z i k)
  | .osub s z l n => frzLeaf (s == r) (borSub z l n o) (.osub s z l n)
  | .bsub s off z n c => frzLeaf (s == r) (borBs off z n o) (.bsub s off z n c)
  | d => d
def frzDL (o : D) (r : Nat) : List D → List D
  | [] => []
  | d :: l => frzD o r d :: frzDL o r l
end
theorem frzL_map (o : D) (r : Nat) : ∀ cs : List D, frzDL o r cs = cs.map (frzD o r)
  | [] => rfl
  | d :: l => by rw [frzDL, frzL_map o r l]; rfl
def frzE (r : Nat) (e : Env) : Env := ⟨fun j => frzD (e.o r) r (e.t j), fun j => if j = r then .undef else frzD (e.o r) r (e.o j)⟩
def frzEL : List Nat → Env → Env
  | [], e => e
  | r :: rs, e => frzEL rs (frzE r e)

section
variable {P : Program} {w0 w w' : World} {l0 : Nat → Option Nat} {G : Nat → Option (Nat × Nat)} {S0 : Nat → Option Value} {lev lev' own own' : Nat → Option Nat} {S S' : Nat → Option Value} {env env' : Env} {tm tm' : Nat → Value} {B : Nat}

/-- the block of object r -/
def blkN (S : Nat → Option Value) (env : Env) (r : Nat) : Option Nat := ((S r).bind fun v => blkOf v (env.o r)).map (·.1)
def levF (lev : Nat → Option Nat) (x : Option Nat) : Nat → Option Nat := fun b => if x = some b then none else lev b
theorem visLe_levF (x : Option Nat) : VisLe w lev w (levF lev x) := by
  intro a u hu
  have hc := vis_cell hu
  unfold vis at hu ⊢
  unfold levF
  by_cases h : x = some a.block
  · rw [if_pos h]; exact hc
  · rw [if_neg h]; exact hu
theorem vis_levF {b i : Nat} {x : Option Nat} (ho : x = some b) {u : Value} (hc : w.cell? ⟨b, i, none⟩ = some u) : vis w (levF lev x) ⟨b, i, none⟩ = some u := by
  unfold vis levF
  simp only [ho, if_true]
  exact hc
theorem blkN_box {r b o : Nat} {cs : List D} (h1 : S r = some (.pointer (some ⟨b, o, none⟩))) (hd : env.o r = .box cs) : blkN S env r = some b := by simp [blkN, h1, hd, blkOf]
theorem blkN_own {r b z len cap : Nat} {rows : List (List D)} (h1 : S r = some (.slice (some ⟨b, 0, none⟩) len cap)) (hd : env.o r = .own z rows) (hc : cap ≠ 0) : blkN S env r = some b := by simp [blkN, h1, hd, blkOf, hc]
theorem rows_pos {rows : List (List D)} {i cap : Nat} {row : List D} (hi : rows[i]? = some row) (hl : rows.length ≤ cap) : cap ≠ 0 := by
  have := (List.getElem?_eq_some_iff.1 hi).1; omega

theorem frz_leaf (h : Inv w0 l0 G S0 w lev own S env tm) (r : Nat) (S' : Nat → Option Value) :
    (∀ v, RepV (cx w lev S) v (.ref r) → RepV (cx w (levF lev (blkN S env r)) S') v (borSl (env.o r))) ∧
    (∀ off v, RepV (cx w lev S) v (.addr r off) → RepV (cx w (levF lev (blkN S env r)) S') v (borBox plain0 off (env.o r))) ∧
    (∀ z i j v, RepV (cx w lev S) v (.oaddr r z i j) → RepV (cx w (levF lev (blkN S env r)) S') v (borEa z i j (env.o r))) ∧
    (∀ z lo len v, RepV (cx w lev S) v (.osub r z lo len) → RepV (cx w (levF lev (blkN S env r)) S') v (borSub z lo len (env.o r))) ∧
    (∀ off z len cap v, RepV (cx w lev S) v (.bsub r off z len cap) → RepV (cx w (levF lev (blkN S env r)) S') v (borBs off z len (env.o r))) := by
  have ho := h.objs r
  have hvl := visLe_levF (w := w) (lev := lev) (blkN S env r)
  refine ⟨?_, ?_, ?_, ?_, ?_⟩
  · intro v hr
    obtain ⟨hS, a, len, cap, rfl⟩ := hr.ref_inv
    simp only [cx] at hS
    cases hd : env.o r <;> rw [hd] at ho <;> simp only [borSl] <;> (try exact .undef _)
    rename_i z rows
    rcases ho with ⟨a', h1, rfl⟩ | ⟨b, c, E, cap', h1, h2, h3, h4, h5, h6, h7, h8, h9, h10⟩
    · rw [hS] at h1
      cases h1
      cases a with
      | none => exact .slnil _
      | some ad => exact repV_sl (rows := []) (by simp) (by simp) (by simp) (by simp)
    · rw [hS] at h1
      cases h1
      refine repV_sl h4 h5 h6 ?_
      intro i j row x hi hj
      obtain ⟨u, hu, hru⟩ := h10 i j row x hi hj
      refine ⟨u, ?_, hru.vkeep hvl (by rw [(h6 row (List.mem_of_getElem? hi) x (List.mem_of_getElem? hj)).2]; simp)⟩
      rw [add_off, Nat.zero_add]
      exact vis_levF (blkN_own hS hd (rows_pos hi h4)) (by rw [cell_at w b _ h2]; exact hu)
  · intro off v hr
    obtain ⟨a, hS, rfl⟩ := hr.addr_inv
    simp only [cx] at hS
    cases hd : env.o r <;> rw [hd] at ho <;> simp only [borBox] <;> (try exact .undef _)
    rename_i cs
    obtain ⟨b, o, c, E, h1, h2, h3, h4, h5, h6, h7⟩ := ho
    rw [hS] at h1
    cases h1
    refine repV_eaddr (by intro d hd'; obtain ⟨x, _, rfl⟩ := List.mem_map.1 hd'; exact plain0_names _) ?_
    intro j x hj
    simp only [List.getElem?_map, List.getElem?_drop] at hj
    cases e : cs[off + j]? with
    | none => rw [e] at hj; cases hj
    | some y =>
      rw [e] at hj
      cases hj
      have hlt : o + (off + j) < c.size := by have := (List.getElem?_eq_some_iff.1 e).1; omega
      refine ⟨c[o + (off + j)], ?_, ?_⟩
      · rw [add_add, add_off]
        refine vis_levF (blkN_box hS hd) ?_
        rw [cell_at w b _ h2]; simp [hlt]
      · have hy := h7 (off + j) c[o + (off + j)] y (by simp [hlt]) e
        unfold plain0
        split
        · rename_i hn
          have hn' : y.names = [] := by simpa using hn
          exact hy.vkeep hvl (by rw [hn']; simp)
        · exact .undef _
  · intro z i j v hr
    obtain ⟨a, len, cap, hS, rfl⟩ := hr.oaddr_inv
    simp only [cx] at hS
    cases hd : env.o r <;> rw [hd] at ho <;> simp only [borEa] <;> (try exact .undef _)
    rename_i z' rows
    split
    · rename_i hz
      obtain ⟨rfl, hi⟩ := hz
      rcases ho with ⟨a', h1, rfl⟩ | ⟨b, c, E, cap', h1, h2, h3, h4, h5, h6, h7, h8, h9, h10⟩
      · simp at hi
      · rw [hS] at h1
        cases h1
        have hrow : rows.getD i [] = rows[i] := by simp [List.getD, hi]
        rw [hrow]
        refine repV_eaddr (fun x hx => (h6 _ (List.getElem_mem hi) x (List.mem_of_mem_drop hx)).2) ?_
        intro m x hm
        rw [List.getElem?_drop] at hm
        obtain ⟨u, hu, hru⟩ := h10 i (j + m) rows[i] x (List.getElem?_eq_getElem hi) hm
        refine ⟨u, ?_, hru.vkeep hvl (by rw [(h6 _ (List.getElem_mem hi) x (List.mem_of_getElem? hm)).2]; simp)⟩
        rw [add_add, add_off]
        refine vis_levF (blkN_own hS hd (by omega)) ?_
        rw [cell_at w b _ h2, ← hu]
        congr 1; omega
    · exact .undef _
  · intro z lo len v hr
    obtain ⟨a, a', L, cap, cap', hS, rfl, q1, q2, q3⟩ := hr.osub_inv
    simp only [cx] at hS
    cases hd : env.o r <;> rw [hd] at ho <;> simp only [borSub] <;> (try exact .undef _)
    rename_i z' rows
    split
    · rename_i hz
      obtain ⟨rfl, hlen⟩ := hz
      have hl : ((rows.drop lo).take len).length = len := by simp; omega
      by_cases h0 : len = 0
      · subst h0
        have e0 : (rows.drop lo).take 0 = [] := by simp
        rw [e0]
        cases a' with
        | none => rw [q3 rfl]; exact .slnil _
        | some ad => exact repV_sl (rows := []) (by simp) (by simp) (by simp) (by simp)
      obtain ⟨b0, rfl, rfl⟩ := q1 h0
      rcases ho with ⟨a', h1, rfl⟩ | ⟨b, c, E, cap2, h1, h2, h3, h4, h5, h6, h7, h8, h9, h10⟩
      · simp at hlen; omega
      · rw [hS] at h1
        cases h1
        have := repV_sl (V := cx w (levF lev (blkN S env r)) S') (z := z') (rows := (rows.drop lo).take len) (a := (⟨b, 0, none⟩ : Addr).add (lo * z')) (cap := cap') (by rw [hl]; exact q2)
          (fun r hr => h5 r (List.mem_of_mem_drop (List.mem_of_mem_take hr))) (fun r hr => h6 r (List.mem_of_mem_drop (List.mem_of_mem_take hr))) (by
            intro i j row x hi hj
            have hil : i < len := by have := (List.getElem?_eq_some_iff.1 hi).1; rw [hl] at this; exact this
            rw [List.getElem?_take_of_lt hil, List.getElem?_drop] at hi
            obtain ⟨u, hu, hru⟩ := h10 (lo + i) j row x hi hj
            refine ⟨u, ?_, hru.vkeep hvl (by rw [(h6 _ (List.mem_of_getElem? hi) x (List.mem_of_getElem? hj)).2]; simp)⟩
            rw [add_add, add_off]
            refine vis_levF (blkN_own hS hd (rows_pos hi h4)) ?_
            rw [cell_at w b _ h2, ← hu]
            congr 1; rw [Nat.add_mul]; omega)
        rw [hl] at this
        exact this
    · exact .undef _
  · intro off z len bcap v hr
    obtain ⟨a, a', cap', hS, rfl, q1, q2, q3⟩ := hr.bsub_inv
    simp only [cx] at hS
    cases hd : env.o r <;> rw [hd] at ho <;> simp only [borBs] <;> (try exact .undef _)
    rename_i cs
    split
    · rename_i hz
      simp only [Bool.and_eq_true, decide_eq_true_eq, List.all_eq_true] at hz
      obtain ⟨hp, hle⟩ := hz
      by_cases h0 : len = 0
      · subst h0
        simp only [rowsOf]
        cases a' with
        | none => rw [q3.1 rfl]; exact .slnil _
        | some ad => exact repV_sl (rows := []) (by simp) (by simp) (by simp) (by simp)
      have ha := q1 h0
      subst ha
      obtain ⟨b, o, c, E, h1, h2, h3, h4, h5, h6, h7⟩ := ho
      rw [hS] at h1
      cases h1
      have hat : ∀ (i : Nat) row, (rowsOf z len (cs.drop off))[i]? = some row → i < len ∧ row = ((cs.drop off).drop (i * z)).take z := by
        intro i row hi
        have := (List.getElem?_eq_some_iff.1 hi).1
        rw [rowsOf_len] at this
        exact ⟨this, rowsOf_at _ _ _ _ _ hi⟩
      have hsub : ∀ i, i < len → ∀ x ∈ ((cs.drop off).drop (i * z)).take z, x ∈ (cs.drop off).take (len * z) := by
        intro i hi x hx
        obtain ⟨m, hm⟩ := List.mem_iff_getElem?.1 hx
        have hmz : m < z := by have := (List.getElem?_eq_some_iff.1 hm).1; simp at this; omega
        rw [List.getElem?_take_of_lt hmz, List.getElem?_drop] at hm
        refine List.mem_of_getElem? (i := i * z + m) ?_
        rw [List.getElem?_take_of_lt (idx_lt hmz hi)]
        exact hm
      have := repV_sl (V := cx w (levF lev (blkN S env r)) S') (z := z) (rows := rowsOf z len (cs.drop off)) (a := (⟨b, o, none⟩ : Addr).add off) (cap := cap') (by rw [rowsOf_len]; exact q2)
        (by
          intro row hrow
          obtain ⟨i, hi⟩ := List.mem_iff_getElem?.1 hrow
          obtain ⟨hil, rfl⟩ := hat i row hi
          have : (i + 1) * z ≤ len * z := Nat.mul_le_mul_right z hil
          rw [Nat.succ_mul] at this
          simp; omega)
        (by
          intro row hrow x hx
          obtain ⟨i, hi⟩ := List.mem_iff_getElem?.1 hrow
          obtain ⟨hil, rfl⟩ := hat i row hi
          exact permOk_of (hp x (hsub i hil x hx)))
        (by
          intro i j row x hi hj
          obtain ⟨hil, rfl⟩ := hat i row hi
          have hpx := permOk_of (hp x (hsub i hil x (List.mem_of_getElem? hj)))
          have hjz : j < z := by have := (List.getElem?_eq_some_iff.1 hj).1; simp at this; omega
          rw [List.getElem?_take_of_lt hjz, List.getElem?_drop, List.getElem?_drop] at hj
          have hlt : o + (off + (i * z + j)) < c.size := by have := (List.getElem?_eq_some_iff.1 hj).1; omega
          refine ⟨c[o + (off + (i * z + j))], ?_, (h7 _ _ x (by simp [hlt]) hj).vkeep hvl (by rw [hpx.2]; simp)⟩
          rw [add_add, add_off]
          exact vis_levF (blkN_box hS hd) (by rw [cell_at w b _ h2]; simp [hlt]))
      rw [rowsOf_len] at this
      exact this
    · exact .undef _

theorem frz_rep (h : Inv w0 l0 G S0 w lev own S env tm) (r : Nat) {v : Value} {d : D} (hr : RepV (cx w lev S) v d) : RepV (cx w (levF lev (blkN S env r)) (setO S r none)) v (frzD (env.o r) r d) := by
  obtain ⟨l1, l2, l3, l4, l5⟩ := frz_leaf h r (setO S r none)
  have hvl := visLe_levF (w := w) (lev := lev) (blkN S env r)
  have same : ∀ {v : Value} {d : D}, RepV (cx w lev S) v d → r ∉ d.names → RepV (cx w (levF lev (blkN S env r)) (setO S r none)) v d := by
    intro v d hr hn
    refine hr.vkeep hvl ?_
    intro s hs u hu
    rw [setO_ne _ _ (by rintro rfl; exact hn hs)]; exact hu
  have lst : ∀ (vs : Array Value) (ds : List D), vs.size = ds.length → (∀ (i : Nat) v d, vs[i]? = some v → ds[i]? = some d → RepV (cx w (levF lev (blkN S env r)) (setO S r none)) v (frzD (env.o r) r d)) →
      vs.size = (frzDL (env.o r) r ds).length ∧ ∀ (i : Nat) v d, vs[i]? = some v → (frzDL (env.o r) r ds)[i]? = some d → RepV (cx w (levF lev (blkN S env r)) (setO S r none)) v d := by
    intro vs ds hl ih
    rw [frzL_map]
    refine ⟨by simpa using hl, ?_⟩
    intro i v d hi hd
    simp only [List.getElem?_map] at hd
    cases e : ds[i]? with
    | none => rw [e] at hd; cases hd
    | some x => rw [e] at hd; cases hd; exact ih i v x hi e
  generalize hC : cx w lev S = C at hr
  induction hr with
  | fn g vs ds hl _ ih => obtain ⟨h1, h2⟩ := lst vs ds hl ih; simp only [frzD]; exact .fn g vs _ h1 h2
  | agg vs ds hl _ ih => obtain ⟨h1, h2⟩ := lst vs ds hl ih; simp only [frzD]; exact .agg vs _ h1 h2
  | tup vs ds hl _ ih => obtain ⟨h1, h2⟩ := lst vs ds hl ih; simp only [frzD]; exact .tup vs _ h1 h2
  | undef v => exact .undef v
  | bool b => exact .bool b
  | int k n => exact .int k n
  | str s => exact .str s
  | nil => exact .nil
  | emp a => exact .emp a
  | nilfn => exact .nilfn
  | nilif => exact .nilif
  | someif t v => exact .someif t v
  | nilp => exact .nilp
  | slnil z => exact .slnil z
  | sl z a cap rows f hl hz hk hc h1 _ => subst hC; exact same (d := .sl z rows) (.sl z a cap rows f hl hz hk hc h1) (by simp [D.names])
  | eaddr a cs f hn hc h1 _ => subst hC; exact same (d := .eaddr cs) (.eaddr a cs f hn hc h1) (by simp [D.names])
  | ref s a len cap hs =>
    subst hC
    simp only [frzD, frzLeaf]
    by_cases e : s = r
    · subst e; simp only [beq_self_eq_true, if_true]; exact l1 _ (.ref s a len cap hs)
    · have : (s == r) = false := by simpa using e
      simp only [this, Bool.false_eq_true, if_false]; exact same (.ref s a len cap hs) (by simp [D.names, Ne.symm e])
  | addr s off a hs =>
    subst hC
    simp only [frzD, frzLeaf]
    by_cases e : s = r
    · subst e; simp only [beq_self_eq_true, if_true]; exact l2 off _ (.addr s off a hs)
    · have : (s == r) = false := by simpa using e
      simp only [this, Bool.false_eq_true, if_false]; exact same (.addr s off a hs) (by simp [D.names, Ne.symm e])
  | oaddr s z i k a len cap hs =>
    subst hC
    simp only [frzD, frzLeaf]
    by_cases e : s = r
    · subst e; simp only [beq_self_eq_true, if_true]; exact l3 z i k _ (.oaddr s z i k a len cap hs)
    · have : (s == r) = false := by simpa using e
      simp only [this, Bool.false_eq_true, if_false]; exact same (.oaddr s z i k a len cap hs) (by simp [D.names, Ne.symm e])
  | osub s z lo len a a' L cap cap' hs q1 q2 q3 =>
    subst hC
    simp only [frzD, frzLeaf]
    by_cases e : s = r
    · subst e; simp only [beq_self_eq_true, if_true]; exact l4 z lo len _ (.osub s z lo len a a' L cap cap' hs q1 q2 q3)
    · have : (s == r) = false := by simpa using e
      simp only [this, Bool.false_eq_true, if_false]; exact same (.osub s z lo len a a' L cap cap' hs q1 q2 q3) (by simp [D.names, Ne.symm e])
  | bsub s off z len cap a a' hs q1 q2 =>
    subst hC
    simp only [frzD, frzLeaf]
    by_cases e : s = r
    · subst e; simp only [beq_self_eq_true, if_true]; exact l5 off z len cap _ (.bsub s off z len cap a a' hs q1 q2)
    · have : (s == r) = false := by simpa using e
      simp only [this, Bool.false_eq_true, if_false]; exact same (.bsub s off z len cap a a' hs q1 q2) (by simp [D.names, Ne.symm e])

theorem Inv.frz (h : Inv w0 l0 G S0 w lev own S env tm) (r : Nat) : Inv w0 l0 G S0 w (levF lev (blkN S env r)) own (setO S r none) (frzE r env) tm ∨ env.o r = .undef := by
  by_cases hlive : env.o r = .undef
  · exact .inr hlive
  left
  have hne : ∀ b k, own b = some k → k ≠ r → blkN S env r ≠ some b := by
    intro b k hb e hx
    unfold blkN at hx
    cases hS : S r with
    | none => rw [hS] at hx; cases hx
    | some v =>
      rw [hS] at hx
      simp only [Option.bind_some] at hx
      cases hk : blkOf v (env.o r) with
      | none => rw [hk] at hx; cases hx
      | some y =>
        obtain ⟨b', lo, hi⟩ := y
        rw [hk] at hx
        simp only [Option.map_some, Option.some.injEq] at hx
        subst hx
        obtain ⟨h1, _⟩ := (h.objs r).blk hS hk
        rw [hb] at h1
        cases h1
        exact e rfl
  refine ⟨h.os, h.tape, h.output, h.size, h.old, h.part, ?_, ?_, ?_, ?_, ?_⟩
  · intro b m hb
    unfold levF at hb
    split at hb
    · cases hb
    · exact h.priv b m hb
  · intro b hb hg
    unfold levF
    split
    · rename_i hx
      exfalso
      unfold blkN at hx
      cases hS : S r with
      | none => rw [hS] at hx; cases hx
      | some v =>
        rw [hS] at hx
        simp only [Option.bind_some] at hx
        cases hk : blkOf v (env.o r) with
        | none => rw [hk] at hx; cases hx
        | some y =>
          obtain ⟨b', lo, hi⟩ := y
          rw [hk] at hx
          simp only [Option.map_some, Option.some.injEq] at hx
          subst hx
          obtain ⟨_, _, h3, _⟩ := (h.objs r).blk hS hk
          rcases h3 with h3 | ⟨l, m, h3, _⟩
          · omega
          · rw [hg] at h3; cases h3
    · exact h.levOld b hb hg
  · intro i hi he
    simp only [frzE] at he
    by_cases e : i = r
    · rw [if_pos e] at he; exact (he rfl).elim
    · rw [if_neg e] at he
      rw [setO_ne _ _ e]
      refine h.ent i hi ?_
      intro hu
      rw [hu] at he
      exact he rfl
  · intro s
    exact frz_rep h r (h.temps s)
  · intro k
    by_cases e : k = r
    · subst e
      simp only [frzE, if_true]
      exact setO_same _ _ _
    · simp only [frzE, e, if_false]
      have ho := h.objs k
      cases hd : env.o k <;> rw [hd] at ho <;> try exact ho.elim
      · simp only [frzD]
        show setO S r none k = none
        rw [setO_ne _ _ e]; exact ho
      · rename_i z rows
        simp only [frzD]
        refine ho.keep (visLe_levF _) ?_ (fun h => by cases h) ?_
        · intro s hs u hu
          rcases hs with rfl | hs
          · rw [setO_ne _ _ e]; exact hu
          · simp [D.names] at hs
        · intro b hb hl
          refine ⟨rfl, ?_, rfl⟩
          unfold levF
          rw [if_neg (hne b k hb e)]
      · rename_i cs
        simp only [frzD]
        obtain ⟨b, o, c, E, h1, h2, h3, h4, h5, h6, h7⟩ := ho
        rw [frzL_map]
        refine ⟨b, o, c, E, by rw [setO_ne _ _ e]; exact h1, h2, by simpa using h3, ?_, h5, by simpa using h6, ?_⟩
        · unfold levF
          rw [if_neg (hne b k h5 e)]; exact h4
        · intro j u x hu hx
          simp only [List.getElem?_map] at hx
          cases hy : cs[j]? with
          | none => rw [hy] at hx; cases hx
          | some y => rw [hy] at hx; cases hx; exact frz_rep h r (h7 j u y hu hy)

theorem Inv.frzL : ∀ (ks : List Nat) {lev : Nat → Option Nat} {S : Nat → Option Value} {env : Env}, Inv w0 l0 G S0 w lev own S env tm → (∀ r ∈ ks, True) → ∃ lev' S', Inv w0 l0 G S0 w lev' own S' (frzEL ks env) tm
  | [], lev, S, env, h, _ => ⟨lev, S, h⟩
  | k :: ks, lev, S, env, h, hk => by
    by_cases hu : env.o k = .undef
    · -- nothing is let go: what names it is forgotten
      have hS := h.fresh hu
      have hi : Inv w0 l0 G S0 w lev own S (frzE k env) tm := by
        have hno : ∀ {v : Value} {d : D}, RepV (cx w lev S) v d → RepV (cx w lev S) v (frzD (env.o k) k d) := by
          intro v d hr
          have := frz_rep h k hr
          have e1 : levF lev (blkN S env k) = lev := by
            funext b
            unfold levF blkN
            rw [hS]; simp
          have e2 : setO S k none = S := by
            funext s
            by_cases e : s = k
            · subst e; rw [setO_same, hS]
            · exact setO_ne _ _ e
          rw [e1, e2] at this
          exact this
        refine ⟨h.os, h.tape, h.output, h.size, h.old, h.part, h.priv, h.levOld, ?_, fun s => hno (h.temps s), ?_⟩
        · intro i hi he
          simp only [frzE] at he
          split at he
          · exact (he rfl).elim
          · refine h.ent i hi ?_
            intro hx
            rw [hx] at he
            exact he rfl
        · intro s
          simp only [frzE]
          split
          · rename_i e; subst e; exact hS
          · have ho := h.objs s
            cases hd : env.o s <;> rw [hd] at ho <;> try exact ho.elim
            · exact ho
            · exact ho
            · rename_i cs
              simp only [frzD]
              obtain ⟨b, o, c, E, h1, h2, h3, h4, h5, h6, h7⟩ := ho
              rw [frzL_map]
              refine ⟨b, o, c, E, h1, h2, by simpa using h3, h4, h5, by simpa using h6, ?_⟩
              intro j u x hu' hx
              simp only [List.getElem?_map] at hx
              cases hy : cs[j]? with
              | none => rw [hy] at hx; cases hx
              | some y => rw [hy] at hx; cases hx; exact hno (h7 j u y hu' hy)
      exact Inv.frzL ks hi (fun _ _ => trivial)
    · rcases h.frz k with hi | hi
      · exact Inv.frzL ks hi (fun _ _ => trivial)
      · exact (hu hi).elim
end
end Go.Abs
