/- copy, clear, cap, append within a box; a slice held against nil; no theorem of a claim. -/
import Derived.Test.YtdklpddmplflgaaDoorAbcOpen
set_option linter.unusedSimpArgs false
set_option linter.unusedVariables false
namespace Go.Abs
theorem flat_at {z : Nat} (hz : z ≠ 0) : ∀ {rows : List (List D)}, (∀ r ∈ rows, r.length = z) → ∀ m, rows.flatten[m]? = (rows[m / z]?).bind (·[m % z]?)
  | [], _, m => by simp
  | r :: rows, h, m => by
    have hr := h r (by simp)
    rw [List.flatten_cons]
    by_cases hm : m < z
    · rw [List.getElem?_append_left (by omega), Nat.div_eq_of_lt hm, Nat.mod_eq_of_lt hm]; rfl
    · rw [List.getElem?_append_right (by omega), hr, flat_at hz (fun r hm => h r (by simp [hm])) (m - z)]
      have e1 : m / z = (m - z) / z + 1 := by
        have : m = (m - z) + z := by omega
        rw [this, Nat.add_div_right _ (by omega)]; simp
      have e2 : (m - z) % z = m % z := (Nat.mod_eq_sub_mod (by omega)).symm
      rw [e1, e2]; simp
theorem flatR_len {z : Nat} : ∀ {rows : List (List D)}, (∀ r ∈ rows, r.length = z) → rows.flatten.length = rows.length * z
  | [], _ => by simp
  | r :: rows, h => by
    rw [List.flatten_cons, List.length_append, flatR_len (fun r hm => h r (by simp [hm])), h r (by simp), List.length_cons, Nat.succ_mul]; omega
theorem flat_take {z : Nat} : ∀ {rows : List (List D)} (i : Nat), (∀ r ∈ rows, r.length = z) → rows.flatten.take (i * z) = (rows.take i).flatten
  | [], i, _ => by simp
  | r :: rows, 0, _ => by simp
  | r :: rows, i + 1, h => by
    have hr := h r (by simp)
    rw [List.take_succ_cons, List.flatten_cons, List.flatten_cons, Nat.succ_mul, Nat.add_comm, ← hr, List.take_length_add_append, hr, flat_take i (fun r hm => h r (by simp [hm]))]
theorem flat_drop {z : Nat} : ∀ {rows : List (List D)} (i : Nat), (∀ r ∈ rows, r.length = z) → rows.flatten.drop (i * z) = (rows.drop i).flatten
  | [], i, _ => by simp
  | r :: rows, 0, _ => by simp
  | r :: rows, i + 1, h => by
    have hr := h r (by simp)
    rw [List.drop_succ_cons, List.flatten_cons, Nat.succ_mul, Nat.add_comm, ← hr, List.drop_length_add_append, hr, flat_drop i (fun r hm => h r (by simp [hm]))]
/-- rows laid over others from i on -/
def splice (T : List (List D)) (i : Nat) (N : List (List D)) : List (List D) := T.take i ++ N ++ T.drop (i + N.length)
theorem splice_len {T N : List (List D)} {i : Nat} (h : i + N.length ≤ T.length) : (splice T i N).length = T.length := by simp [splice]; omega
theorem splice_mem {T N : List (List D)} {i : Nat} {r : List D} (h : r ∈ splice T i N) : r ∈ T ∨ r ∈ N := by
  simp only [splice, List.mem_append] at h
  rcases h with (h | h) | h
  · exact .inl (List.mem_of_mem_take h)
  · exact .inr h
  · exact .inl (List.mem_of_mem_drop h)
theorem splice_at {T N : List (List D)} {i k : Nat} (h : i + N.length ≤ T.length) : (splice T i N)[k]? = if i ≤ k ∧ k < i + N.length then N[k - i]? else T[k]? := by
  unfold splice
  have hl : (T.take i).length = i := by simp; omega
  by_cases h1 : k < i
  · rw [List.append_assoc, List.getElem?_append_left (by omega), List.getElem?_take_of_lt h1, if_neg (by omega)]
  · by_cases h2 : k < i + N.length
    · rw [List.getElem?_append_left (by simp; omega), List.getElem?_append_right (by omega), hl, if_pos (by omega)]
    · rw [List.getElem?_append_right (by simp; omega), List.getElem?_drop, if_neg (by omega)]
      congr 1; simp; omega
theorem wput_flat {z : Nat} {T N : List (List D)} {i : Nat} (hT : ∀ r ∈ T, r.length = z) (hN : ∀ r ∈ N, r.length = z) : wput T.flatten (i * z) N.flatten = (splice T i N).flatten := by
  unfold wput splice
  rw [flat_take i hT, flatR_len hN, ← Nat.add_mul, flat_drop _ hT]
  simp

section
variable {P : Program} {n : Nat} {w0 w w' : World} {l0 : Nat → Option Nat} {G : Nat → Option (Nat × Nat)} {S0 : Nat → Option Value} {lev lev' own own' : Nat → Option Nat} {S S' : Nat → Option Value} {env env' : Env} {tm tm' : Nat → Value}
/-- cells written into a box -/
theorem Inv.writeBox (h : Inv w0 l0 G S0 w lev own S env tm) {r off : Nat} {cs ds : List D} (he : env.o r = .box cs) {news : List Value} (hlen : news.length = ds.length) (hone : ∀ v ∈ news, v.oneCell' = true)
    (hrep : ∀ (j : Nat) v d, news[j]? = some v → ds[j]? = some d → RepV (cx w lev S) v d) (hoff : off + ds.length ≤ cs.length) {ad : Addr} (ha : S r = some (.pointer (some ad))) :
    ∃ w', (storeCells (ad.add off) news).run P w = .ok () w' ∧ Inv w0 l0 G S0 w' lev own S (updO env r (.box (wput cs off ds))) tm := by
  have hobj := h.objs r
  rw [he] at hobj
  obtain ⟨b, o, c, E, h1, h2, h3, h4, h5, h6, h7⟩ := hobj
  have : ad = ⟨b, o, none⟩ := by rw [h1] at ha; cases ha; rfl
  subst this
  have hl2 : (o + off) + news.length ≤ c.size := by omega
  have hget : ∀ j, (writeAt c (o + off) news)[j]? = if o + off ≤ j ∧ j < o + off + ds.length then news[j - (o + off)]? else c[j]? := by
    intro j
    rw [writeAt_get _ _ _ _ hl2, hlen]
  refine ⟨setBlk w b (writeAt c (o + off) news) E, ?_, ?_⟩
  · have := run_storeCells (P := P) b (o + off) E news 0 c w h2 (by simpa using hl2) hone
    simp only [Nat.add_zero] at this
    rw [add_off]; exact this
  have hvl : VisLe w lev (setBlk w b (writeAt c (o + off) news) E) lev := visLe_setBlk h4
  refine h.setObj (went_setBlk h h2 (writeAt_size _ _ _) h6 ?_) hvl (fun _ _ => rfl) (fun _ h => h) (.inr (by rw [he]; simp)) ?_ ?_
  · intro j hj
    rw [hget, if_neg (by omega)]
  · intro b' s hs _ hb' _
    have : b' ≠ b := by
      rintro rfl
      rw [h5] at hb'; cases hb'; exact hs rfl
    exact ⟨setBlk_ne this _ _, rfl, rfl⟩
  · have hwl : (wput cs off ds).length = cs.length := wput_length (by omega)
    refine ⟨b, o, _, E, h1, setBlk_same (lt_of_block h2) _ _, by rw [writeAt_size, hwl]; exact h3, h4, h5, by rw [hwl]; exact h6, ?_⟩
    intro j u e hu he'
    rw [hget] at hu
    rw [wput_get (by omega)] at he'
    by_cases hj : off ≤ j ∧ j < off + ds.length
    · rw [if_pos (by omega)] at hu
      rw [if_pos hj] at he'
      have e1 : o + j - (o + off) = j - off := by omega
      rw [e1] at hu
      exact (hrep _ u e hu he').vmono hvl fun _ _ h => h
    · rw [if_neg (by omega)] at hu
      rw [if_neg hj] at he'
      exact (h7 j u e hu he').vmono hvl fun _ _ h => h
/-- rows written into an own slice -/
theorem Inv.writeOwn (h : Inv w0 l0 G S0 w lev own S env tm) {r i z : Nat} {rows N : List (List D)} (he : env.o r = .own z rows) {news : List Value} (hlen : news.length = N.length * z) (hone : ∀ v ∈ news, v.oneCell' = true)
    (hN : ∀ r ∈ N, r.length = z) (hp : ∀ r ∈ N, ∀ d ∈ r, permOk d)
    (hrep : ∀ (i j : Nat) row d, N[i]? = some row → row[j]? = some d → ∃ u, news[i * z + j]? = some u ∧ RepV (cx w lev S) u d) (hi : i + N.length ≤ rows.length) {ad : Option Addr} {len cap : Nat} (ha : S r = some (.slice ad len cap)) (hne : rows ≠ []) :
    ∃ b w', ad = some b ∧ (storeCells (b.add (i * z)) news).run P w = .ok () w' ∧ Inv w0 l0 G S0 w' lev own S (updO env r (.own z (splice rows i N))) tm := by
  have hobj := h.objs r
  rw [he] at hobj
  rcases hobj with ⟨_, _, hnil⟩ | ⟨b, c, E, cap', h1, h2, h3, h4, h5, h6, h7, h8, h9, h10⟩
  · exact (hne hnil).elim
  have : ad = some ⟨b, 0, none⟩ := by rw [h1] at ha; cases ha; rfl
  subst this
  have hiz : (i + N.length) * z ≤ cap' * z := Nat.mul_le_mul_right z (by omega)
  rw [Nat.add_mul] at hiz
  have hl2 : i * z + news.length ≤ c.size := by omega
  have hget : ∀ j, (writeAt c (i * z) news)[j]? = if i * z ≤ j ∧ j < i * z + N.length * z then news[j - i * z]? else c[j]? := by
    intro j
    rw [writeAt_get _ _ _ _ hl2, hlen]
  refine ⟨_, setBlk w b (writeAt c (i * z) news) E, rfl, ?_, ?_⟩
  · have := run_storeCells (P := P) b (i * z) E news 0 c w h2 (by simpa using hl2) hone
    simp only [Nat.add_zero] at this
    rw [add_off, Nat.zero_add]; exact this
  have hvl : VisLe w lev (setBlk w b (writeAt c (i * z) news) E) lev := visLe_setBlk h7
  refine h.setObj (went_setBlk h h2 (writeAt_size _ _ _) h9 ?_) hvl (fun _ _ => rfl) (fun _ h => h) (.inr (by rw [he]; simp)) ?_ ?_
  · intro j hj
    rw [hget, if_neg (by omega)]
  · intro b' s hs _ hb' _
    have : b' ≠ b := by
      rintro rfl
      rw [h8] at hb'; cases hb'; exact hs rfl
    exact ⟨setBlk_ne this _ _, rfl, rfl⟩
  · refine .inr ⟨b, _, E, cap', by rw [splice_len hi]; exact h1, setBlk_same (lt_of_block h2) _ _, by rw [writeAt_size]; exact h3, by rw [splice_len hi]; exact h4, ?_, ?_, h7, h8, by rw [writeAt_size]; exact h9, ?_⟩
    · intro row hm
      rcases splice_mem hm with hm | hm
      · exact h5 row hm
      · exact hN row hm
    · intro row hm
      rcases splice_mem hm with hm | hm
      · exact h6 row hm
      · exact hp row hm
    · intro i' j row x hrow hx
      rw [splice_at hi] at hrow
      by_cases hii : i ≤ i' ∧ i' < i + N.length
      · rw [if_pos hii] at hrow
        have hjz : j < z := by rw [← hN row (List.mem_of_getElem? hrow)]; exact (List.getElem?_eq_some_iff.1 hx).1
        obtain ⟨u, hu, hru⟩ := hrep _ j row x hrow hx
        refine ⟨u, ?_, hru.vmono hvl fun _ _ h => h⟩
        have e1 : (i' - i) * z = i' * z - i * z := Nat.sub_mul _ _ _
        have e2 : i * z ≤ i' * z := Nat.mul_le_mul_right z hii.1
        have e3 := idx_lt (z := z) hjz (show i' - i < N.length by omega)
        rw [hget, if_pos (by omega), ← hu]
        congr 1; omega
      · rw [if_neg hii] at hrow
        have hjz : j < z := by rw [← h5 row (List.mem_of_getElem? hrow)]; exact (List.getElem?_eq_some_iff.1 hx).1
        obtain ⟨u, hu, hru⟩ := h10 i' j row x hrow hx
        refine ⟨u, ?_, hru.vmono hvl fun _ _ h => h⟩
        rw [hget, if_neg ?_]
        · exact hu
        · rintro ⟨g1, g2⟩
          rw [← Nat.add_mul] at g2
          refine hii ⟨?_, ?_⟩
          · rcases Nat.lt_or_ge i' i with hlt | hge
            · have := idx_lt hjz hlt; omega
            · exact hge
          · rcases Nat.lt_or_ge i' (i + N.length) with hlt | hge
            · exact hlt
            · have := Nat.mul_le_mul_right z hge; omega
theorem SlIs.take {V : Cx} {a : Option Addr} {len cap z m : Nat} {R : List (List D)} (h : SlIs w V (.slice a len cap) z R) (hm : m ≤ R.length) : SlIs w V (.slice a m cap) z (R.take m) := by
  obtain ⟨a', cap', e, h1, h2, h3, h4, h5⟩ := h
  cases e
  have hl : (R.take m).length = m := by simp; omega
  have := show SlIs w V (.slice a (R.take m).length cap) z (R.take m) from
    ⟨a, cap, rfl, by omega, fun r hr => h2 r (List.mem_of_mem_take hr), fun r hr => h3 r (List.mem_of_mem_take hr), fun ha => by rw [h4 ha]; simp, fun ad ha i j row d hi hj => by
      have him : i < m := by have := (List.getElem?_eq_some_iff.1 hi).1; rw [hl] at this; exact this
      rw [List.getElem?_take_of_lt him] at hi
      exact h5 ad ha i j row d hi hj⟩
  rwa [hl] at this
/-- the first m elements of y are these rows -/
def Src (e : Env) (z m ly : Nat) (rows : List (List D)) : D → Prop
  | .bsub r off z' l c => z' = z ∧ l = ly ∧ m ≤ l ∧ rowsD z (bor e.o [] 2 (.bsub r off z' m c)) = some rows
  | y => ∃ R, rowsD z (bor e.o [] 2 y) = some R ∧ R.length = ly ∧ m ≤ ly ∧ rows = R.take m
theorem src_cells (h : Inv w0 l0 G S0 w lev own S env tm) {y : Value} {yd : D} (hy : RepV (cx w lev S) y yd) {z m ly : Nat} (hz : z ≠ 0) {rows : List (List D)} (hs : Src env z m ly rows yd) :
    (Builtin.lenOf y).run P w = .ok ly w ∧ rows.length = m ∧ (∀ r ∈ rows, r.length = z) ∧ (∀ r ∈ rows, ∀ d ∈ r, permOk d) ∧ ∃ news : List Value, (Builtin.firstCells z m y).run P w = .ok news.toArray w ∧ news.length = rows.length * z ∧ (∀ u ∈ news, u.oneCell' = true) ∧
      ∀ (i j : Nat) row d, rows[i]? = some row → row[j]? = some d → ∃ u, news[i * z + j]? = some u ∧ RepV (cx w lev S) u d := by
  have key : ∃ a cap, y = .slice a ly cap ∧ SlIs w (cx w lev S) (.slice a m cap) z rows := by
    by_cases hb : ∃ r off z' l c, yd = .bsub r off z' l c
    · obtain ⟨r, off, z', l, c, rfl⟩ := hb
      obtain ⟨rfl, rfl, hm, hr⟩ := hs
      obtain ⟨a, a', cap', hS, rfl, h3, h4, h5, rfl, h6⟩ := hy.bsub_inv
      exact ⟨a', _, rfl, slIs_of_bor h (RepV.bsub r off z' m cap' a a' hS h6 (by omega)) hr S⟩
    · have hs' : ∃ R, rowsD z (bor env.o [] 2 yd) = some R ∧ R.length = ly ∧ m ≤ ly ∧ rows = R.take m := by
        cases yd <;> first | exact hs | exact (hb ⟨_, _, _, _, _, rfl⟩).elim
      obtain ⟨R, hR, hl, hm, rfl⟩ := hs'
      have hsl := slIs_of_bor h hy hR S
      have hsl' := hsl
      obtain ⟨a, cap, rfl, _⟩ := hsl'
      rw [← hl]
      exact ⟨a, cap, rfl, hsl.take (by omega)⟩
  obtain ⟨a, cap, rfl, hsl⟩ := key
  have hsl' := hsl
  obtain ⟨a2, cap2, e, g1, g2, g3, g4, g5⟩ := hsl'
  cases e
  obtain ⟨news, n1, n2, n3, n4⟩ := cells_at (P := P) (w := w) hz hsl.toC
  refine ⟨by simp [Builtin.lenOf, Sem.run, pure], rfl, g2, g3, news, ?_, n2, n4, n3⟩
  cases a <;> exact n1
theorem flat_rep {C : Cx} {z : Nat} (hz : z ≠ 0) {rows : List (List D)} {news : List Value} (hr : ∀ r ∈ rows, r.length = z) (h : ∀ (i j : Nat) row d, rows[i]? = some row → row[j]? = some d → ∃ u, news[i * z + j]? = some u ∧ RepV C u d)
    (m : Nat) (v : Value) (d : D) (hv : news[m]? = some v) (hd : rows.flatten[m]? = some d) : RepV C v d := by
  rw [flat_at hz hr] at hd
  cases hi : rows[m / z]? with
  | none => rw [hi] at hd; cases hd
  | some row =>
    rw [hi] at hd
    obtain ⟨u, hu, hru⟩ := h _ _ row d hi hd
    have e : m / z * z + m % z = m := by rw [Nat.mul_comm]; exact Nat.div_add_mod m z
    rw [e, hv] at hu
    cases hu
    exact hru
section
variable {e : Env} {K : Env → Prop} {d : Nat} {ty T T2 : TypeId} {pos : String} {after : Array Edge} {gu : Option (Nat × Bool)}
/-- copy into a box -/
theorem SemK.copyBox {x y : Operand} {z by_ : Nat} {ea : Bool} {r off l c ly : Nat} {cs : List D} {rows : List (List D)} (hT : tyT P T = .slice z by_ ea) (hx : rd e x = .bsub r off z l c) (he : e.o r = .box cs) (hsrc : Src e z (min ly l) ly rows (rd e y)) (hd : d < n)
    (hoff : off + (min ly l) * z ≤ cs.length) (hK : K (updT (updO e r (.box (wput cs off rows.flatten))) d (.int .i64 (min ly l : Nat)))) :
    SemK P n ⟨some d, .call ⟨.builtin .copy, #[x, y], #[T, T2]⟩, ty, pos, after, gu⟩ e K := by
  intro w0 l0 G S0 w lev own S a next Q h hn hdf hnext
  have hox := h.opd a rfl x
  have hoy := h.opd a rfl y
  rw [hx] at hox
  obtain ⟨el, inf, hu, hl, hin, hb, hz, zv0, hzv0, hzz0⟩ := tyT_slice hT
  obtain ⟨hlen, h1, h2, h3, news, h4, h5, h6, h7⟩ := src_cells (P := P) h hoy hz hsrc
  obtain ⟨ad, a', cap', hS, hv, g3, g4, g5, rfl, g6⟩ := hox.bsub_inv
  have hfl := flatR_len h2
  have hds : news.length = rows.flatten.length := by rw [h5, hfl]
  by_cases h0 : min ly l = 0
  · have hr0 : rows = [] := List.length_eq_zero_iff.1 (by omega)
    subst hr0
    have hn0 : news = [] := List.length_eq_zero_iff.1 (by simpa using h5)
    subst hn0
    have hw0' : wput cs off [] = cs := by simp [wput]
    have he' : updO e r (.box cs) = e := by
      simp only [updO]
      cases e with
      | mk t o =>
        simp only [Env.mk.injEq, true_and]
        funext j
        by_cases hj : j = r
        · subst hj; simp only [if_true]; exact he.symm
        · simp [hj]
    simp only [List.flatten_nil, hw0', he', h0] at hK
    refine upon_value rfl (u := .int .i64 0) ?_ (go_next hn hdf hnext hd (h.put (.int _ _)) hK)
    have hm : (#[x, y].map a.eval : Array Value) = #[a.eval x, a.eval y] := by simp
    rw [h0] at h4
    have hmin : ly.min l = 0 := h0
    cases a' <;> simp [execOp, resolve, Sem.run_bind, pure, Sem.run, invoke, builtin, hm, Builtin.copy_, run_und hu, hv, hlen, run_lsize hl, hmin, h4, goInt, storeCells]
  · have ha' := g6 (by omega)
    subst ha'
    obtain ⟨w', hr, hi⟩ := h.writeBox (P := P) he hds h6 (flat_rep hz h2 h7) (by rw [hfl, h1]; exact hoff) hS
    refine upon_value rfl (u := .int .i64 (min ly l : Nat)) ?_ (go_next hn hdf hnext hd (hi.put (.int _ _)) hK)
    have hm : (#[x, y].map a.eval : Array Value) = #[a.eval x, a.eval y] := by simp
    have hmin : ly.min l = min ly l := rfl
    simp [execOp, resolve, Sem.run_bind, pure, Sem.run, invoke, builtin, hm, Builtin.copy_, run_und hu, hv, hlen, run_lsize hl, hmin, h4, hr, goInt]
/-- copy into an own slice, from lo on -/
theorem SemK.copyOwn {x y : Operand} {z by_ : Nat} {ea : Bool} {r lo len ly : Nat} {R rows : List (List D)} (hT : tyT P T = .slice z by_ ea) (hx : rd e x = .osub r z lo len) (he : e.o r = .own z R) (hsrc : Src e z (min ly len) ly rows (rd e y)) (hd : d < n)
    (hoff : lo + (min ly len) ≤ R.length) (h0 : min ly len ≠ 0) (hK : K (updT (updO e r (.own z (splice R lo rows))) d (.int .i64 (min ly len : Nat)))) :
    SemK P n ⟨some d, .call ⟨.builtin .copy, #[x, y], #[T, T2]⟩, ty, pos, after, gu⟩ e K := by
  intro w0 l0 G S0 w lev own S a next Q h hn hdf hnext
  have hox := h.opd a rfl x
  have hoy := h.opd a rfl y
  rw [hx] at hox
  obtain ⟨el, inf, hu, hl, hin, hb, hz, zv0, hzv0, hzz0⟩ := tyT_slice hT
  obtain ⟨hlen, h1, h2, h3, news, h4, h5, h6, h7⟩ := src_cells (P := P) h hoy hz hsrc
  obtain ⟨ad, a', L, cap, cap', hS, hv, g3, g4, g5⟩ := hox.osub_inv
  obtain ⟨b, hab, ha'⟩ := g3 (by omega)
  obtain ⟨b', w', hb', hr, hi⟩ := h.writeOwn (P := P) he (i := lo) h5 h6 h2 h3 h7 (by omega) hS (by intro e0; subst e0; simp at hoff; omega)
  rw [hab] at hb'
  cases hb'
  subst ha'
  refine upon_value rfl (u := .int .i64 (min ly len : Nat)) ?_ (go_next hn hdf hnext hd (hi.put (.int _ _)) hK)
  have hm : (#[x, y].map a.eval : Array Value) = #[a.eval x, a.eval y] := by simp
  have hmin : ly.min len = min ly len := rfl
  simp [execOp, resolve, Sem.run_bind, pure, Sem.run, invoke, builtin, hm, Builtin.copy_, run_und hu, hv, hlen, run_lsize hl, hmin, h4, hr, goInt]
/-- the capacity of a slice of a box -/
theorem SemK.cap {x : Operand} {z by_ : Nat} {ea : Bool} {r off l c : Nat} (hT : tyT P T = .slice z by_ ea) (hx : rd e x = .bsub r off z l c) (hd : d < n) (hK : K (updT e d (.int .i64 c))) : SemK P n ⟨some d, .call ⟨.builtin .cap, #[x], #[T]⟩, ty, pos, after, gu⟩ e K := by
  intro w0 l0 G S0 w lev own S a next Q h hn hdf hnext
  have hox := h.opd a rfl x
  rw [hx] at hox
  obtain ⟨el, inf, hu, _⟩ := tyT_slice hT
  obtain ⟨ad, a', cap', hS, hv, g3, g4, g5, rfl, g6⟩ := hox.bsub_inv
  refine upon_value rfl (u := .int .i64 cap') ?_ (go_next hn hdf hnext hd (h.put (.int _ _)) hK)
  have hm : (#[x].map a.eval : Array Value) = #[a.eval x] := by simp
  simp [execOp, resolve, Sem.run_bind, pure, Sem.run, invoke, builtin, hm, Builtin.cap_, run_und hu, hv, goInt]
theorem run_nilEq {t el : TypeId} (hu : P.underlying t = some (.slice el)) (a : Option Addr) (l c : Nat) : (Op.equal t (.slice a l c) (.slice none 0 0)).run P w = .ok a.isNone w := by
  show (Op.equalIn (9999 + 1) t _ _).run P w = _
  cases a <;> (unfold Op.equalIn; simp only [Sem.run_bind, run_und hu, Result.andThen_ok]; rfl)
/-- a slice held against nil -/
theorem SemK.nilEq {x : Operand} {z by_ z' : Nat} {ea : Bool} {rows : List (List D)} {t2 : TypeId} (hT : tyT P T = .slice z by_ ea) (hx : rd e x = .sl z' rows) (hd : d < n) (hK : ∀ b : Bool, (b = true → rows = []) → K (updT e d (.bool b))) :
    SemK P n ⟨some d, .binOp .eql T x (.const (.slice none 0 0)) t2, ty, pos, after, gu⟩ e K := by
  intro w0 l0 G S0 w lev own S a next Q h hn hdf hnext
  have hox := h.opd a rfl x
  rw [hx] at hox
  obtain ⟨el, inf, hu, _⟩ := tyT_slice hT
  obtain ⟨ad, cap, hv, h1, h2, h3, h4, h5⟩ := hox.sl_inv
  have hc : a.eval (.const (.slice none 0 0)) = .slice none 0 0 := rfl
  have he := run_nilEq (P := P) (w := w) hu ad rows.length cap
  have hex : ∀ b : Bool, ad.isNone = b → (execOp a.eval ⟨some d, .binOp .eql T x (.const (.slice none 0 0)) t2, ty, pos, after, gu⟩).run P w = .ok (.value (.bool b)) w := by
    rintro b rfl
    have hg : (eqGuard .eql T x (.const (.slice none 0 0)) (.slice ad rows.length cap) (.slice none 0 0)).run P w = .ok () w := by simp [eqGuard, Sem.run, pure]
    have hb : (binOp .eql T (.slice ad rows.length cap) (.slice none 0 0)).run P w = .ok (.bool ad.isNone) w := by simp [binOp, Sem.run_bind, he, Sem.run, pure]
    simp only [execOp, hv, hc, Sem.run_bind, hg, hb, Result.andThen_ok]; rfl
  cases ad with
  | none => exact upon_value rfl (u := .bool true) (hex true rfl) (go_next hn hdf hnext hd (h.put (.bool _)) (hK true (fun _ => (h4 rfl).1)))
  | some ad => exact upon_value rfl (u := .bool false) (hex false rfl) (go_next hn hdf hnext hd (h.put (.bool _)) (hK false (fun h => by cases h)))
/-- append to a slice of a box -/
theorem SemK.appBox {x y : Operand} {z by_ z2 b2 : Nat} {ea a2 : Bool} {r off l c : Nat} {cs : List D} {rows2 : List (List D)} (hT : tyT P T = .slice z by_ ea) (hT2 : tyT P T2 = .slice z2 b2 a2) (hx : rd e x = .bsub r off z l c) (he : e.o r = .box cs) (hy : rowsD z (bor e.o [] 2 (rd e y)) = some rows2) (hd : d < n) (hby : by_ ≤ 2 ^ 32)
    (h1 : l + rows2.length ≤ c → off + (l + rows2.length) * z ≤ cs.length ∧ K (updT (updO e r (.box (wput cs (off + l * z) rows2.flatten))) d (.bsub r off z (l + rows2.length) c)))
    (h2 : c < l + rows2.length → ∃ rows, bor e.o [] 2 (.bsub r off z l c) = .sl z rows ∧ rows.length = l ∧ (by_ + 1) * (l + rows2.length) ≤ 2 ^ 45 ∧ e.o (nm d 0) = .undef ∧ K (updT (updO e (nm d 0) (.own z (rows ++ rows2))) d (.ref (nm d 0)))) :
    SemK P n ⟨some d, .call ⟨.builtin .append, #[x, y], #[T, T2]⟩, ty, pos, after, gu⟩ e K := by
  intro w0 l0 G S0 w lev own S a next Q h hn hdf hnext
  have hox := h.opd a rfl x
  have hoy := h.opd a rfl y
  rw [hx] at hox
  have hu2 : ∃ e, P.underlying T2 = some (.slice e) := by
    obtain ⟨e, _, hu, _⟩ := tyT_slice hT2
    exact ⟨e, hu⟩
  obtain ⟨el, inf, hu, hl, hin, hb, hz, zv0, hzv0, hzz0⟩ := tyT_slice hT
  have hsl := slIs_of_bor h hoy hy S
  have hm : (#[x, y].map a.eval : Array Value) = #[a.eval x, a.eval y] := by simp
  have go : ∀ u w', (Builtin.append_ #[T, T2] ty #[a.eval x, a.eval y]).run P w = .ok u w' → (execOp a.eval ⟨some d, .call ⟨.builtin .append, #[x, y], #[T, T2]⟩, ty, pos, after, gu⟩).run P w = .ok (.value u) w' := by
    intro u w' hr
    simp only [execOp, resolve, Sem.run_bind, pure, Sem.run, Result.andThen_ok, invoke, builtin, hm, hr]
  have hox' := hox
  obtain ⟨ad, a', cap', hS, hv, g3, g4, g5, rfl, g6⟩ := hox.bsub_inv
  by_cases hfit : l + rows2.length ≤ cap'
  · obtain ⟨ho, hK⟩ := h1 hfit
    obtain ⟨news, hnl, hng, hn1, hrun⟩ := app_fit (P := P) (w := w) (V := cx w lev S) hT hu2 (a := a') (len := l) (cap := cap') hsl.toC hfit ty
    have hrl : ∀ r ∈ rows2, r.length = z := by obtain ⟨_, _, _, _, h3, _⟩ := hsl; exact h3
    have hfl := flatR_len hrl
    by_cases hc0 : cap' = 0
    · subst hc0
      have hr0 : rows2 = [] := List.length_eq_zero_iff.1 (by omega)
      have hl0 : l = 0 := by omega
      subst hr0; subst hl0
      have hn0 : news = [] := List.length_eq_zero_iff.1 (by simpa using hnl)
      subst hn0
      have hw : wput cs (off + 0 * z) [] = cs := by simp [wput]
      have he' : updO e r (.box cs) = e := by
        simp only [updO]
        cases e with
        | mk t o =>
          simp only [Env.mk.injEq, true_and]
          funext j
          by_cases hj : j = r
          · subst hj; simp only [if_true]; exact he.symm
          · simp [hj]
      simp only [List.flatten_nil, hw, he', List.length_nil, Nat.add_zero] at hK
      have hr := hrun w (by cases a' <;> simp [storeCells, Sem.run, pure])
      rw [← hv] at hr
      refine upon_value rfl (go _ _ hr) (go_next hn hdf hnext hd (h.put ?_) hK)
      simpa [hv] using hox'
    · have ha' := g6 hc0
      subst ha'
      obtain ⟨w', hr, hi⟩ := h.writeBox (P := P) he (news := news) (ds := rows2.flatten) (off := off + l * z) (by rw [hnl, hfl]) hn1 (flat_rep hz hrl hng) (by rw [hfl]; rw [Nat.add_mul] at ho; omega) hS
      have hr2 := hrun w' (by show (storeCells ((ad.add off).add (l * z)) news).run P w = _; rw [add_add]; exact hr)
      rw [← hv] at hr2
      refine upon_value rfl (go _ _ hr2) (go_next hn hdf hnext hd (hi.put (.bsub r off z _ _ ad _ hS (fun _ => rfl) hfit)) hK)
  · obtain ⟨rows, hbr, hlr, hbig, hfr, hK⟩ := h2 (by omega)
    have hslx := slIs_of_bor h hox (z := z) (rows := rows) (by rw [hbr]; simp [rowsD]) S
    rw [hv] at hslx
    subst hlr
    have hslx' : SlIs w (cx w lev S) (.slice a' rows.length cap') z rows := hslx
    obtain ⟨_, _, _, _, q2, q3, _⟩ := hslx
    obtain ⟨_, _, _, _, p2, p3, _⟩ := id hsl
    obtain ⟨M, e', cells, k1, k2, k3, k4⟩ := app_grow (P := P) (w := w) (V := cx w lev S) hT hu2 hslx'.toC hsl.toC hfit hbig hby ty
    have hrl : ∀ row ∈ rows ++ rows2, row.length = z := fun row hrow => (List.mem_append.1 hrow).elim (q2 row) (p2 row)
    have hpm : ∀ row ∈ rows ++ rows2, ∀ d ∈ row, permOk d := fun row hrow => (List.mem_append.1 hrow).elim (q3 row) (p3 row)
    have hi := h.drew.newOwn (nm_ge d 0) hfr (vs := cells) (z := z) (cap := M) (rows := rows ++ rows2) e' k2 (by rw [List.length_append]; exact k1) hrl hpm (by
      intro i j row d hi hj
      obtain ⟨u, hu, hru⟩ := k4 i j row d hi hj
      have hnn : d.names = [] := (hpm row (List.mem_of_getElem? hi) d (List.mem_of_getElem? hj)).2
      exact ⟨u, hu, RepV.vkeep (w := w) (w' := w.drew) (lev' := lev) hru (fun _ _ h => h) (by rw [hnn]; simp)⟩)
    rw [← hv] at k3
    refine upon_value rfl (go _ _ k3) (go_next hn hdf hnext hd (owned hi ?_ ⟨_, _, _, rfl⟩) hK)
    rw [setO_same, List.length_append]; rfl
/-- append of so many zeros to a slice of a box that has no room -/
theorem SemK.appZeros {x y : Operand} {z by_ : Nat} {ea : Bool} {r off l c : Nat} {k k2 : IntKind} {m : Nat} {rows : List (List D)} {zc : List D} (hT : tyT P T = .slice z by_ ea) (hT2 : tyT P T2 = .int k2) (hx : rd e x = .bsub r off z l c) (hy : rd e y = .int k m) (hzc : zeroElemT P T = some zc) (hzl : zc.length = z) (hzp : ∀ d ∈ zc, permOk d) (hd : d < n) (hby : by_ ≤ 2 ^ 32)
    (hm0 : 0 < m) (hgrow : c < l + m) (hb : bor e.o [] 2 (.bsub r off z l c) = .sl z rows) (hlr : rows.length = l) (hbig : (by_ + 1) * (l + m) ≤ 2 ^ 45) (hfr : e.o (nm d 0) = .undef) (hK : K (updT (updO e (nm d 0) (.own z (rows ++ List.replicate m zc))) d (.ref (nm d 0)))) :
    SemK P n ⟨some d, .call ⟨.builtin .append, #[x, y], #[T, T2]⟩, ty, pos, after, gu⟩ e K := by
  intro w0 l0 G S0 w lev own S a next Q h hn hdf hnext
  have hox := h.opd a rfl x
  have hoy := h.opd a rfl y
  rw [hx] at hox
  rw [hy] at hoy
  have hyv := hoy.int_inv
  have hu2 := tyT_int hT2
  obtain ⟨el, inf, hu, hl, hin, hbi, hz, zv, hzv, hzz⟩ := tyT_slice hT
  have hze : zeroT P el = some zc := by rw [← hzc]; simp [zeroElemT, hu]
  obtain ⟨zv', hzr', hzs, hzrep⟩ := zero_cells hze w.drew
  have hzr : (zeroValue el).run P w.drew = .ok zv w.drew := by simp [zeroValue, Sem.run_bind, run_info hin, hzv, Sem.run, pure]
  have hzz' : zv' = zv := by rw [hzr] at hzr'; cases hzr'; rfl
  subst hzz'
  have hm : (#[x, y].map a.eval : Array Value) = #[a.eval x, a.eval y] := by simp
  obtain ⟨ad, a', cap', hS, hv, g3, g4, g5, rfl, g6⟩ := hox.bsub_inv
  have hslx := slIs_of_bor h hox (z := z) (rows := rows) (by rw [hb]; simp [rowsD]) S
  rw [hv] at hslx
  subst hlr
  obtain ⟨_, _, _, _, q2, q3, _⟩ := id hslx
  have hdw : (w.drew).heap = w.heap := rfl
  obtain ⟨olds', hor', hol', hog', -⟩ := cells_at (P := P) (w := w.drew) hz (hslx.at hdw).toC
  obtain ⟨N, hNd⟩ : ∃ N, N = (Question.appendCap (rows.length + m) cap' el).cut (w.tape w.drawn (.appendCap (rows.length + m) cap' el)) := ⟨_, rfl⟩
  have hN : rows.length + m ≤ N := by rw [hNd]; simp only [Question.cut]; omega
  have hnext' := nextslicecap_le hgrow
  have h2' : by_ * (rows.length + m) ≤ 2 ^ 45 := Nat.le_trans (by rw [Nat.succ_mul]; omega) hbig
  have hbytes : ¬ 281474976710656 < Builtin.nextslicecap (rows.length + m) cap' * inf.bytes := by
    rw [hbi]
    have h1 : Builtin.nextslicecap (rows.length + m) cap' * by_ ≤ (2 * (rows.length + m) + 192) * by_ := Nat.mul_le_mul_right _ hnext'
    have h3 : (2 * (rows.length + m) + 192) * by_ = 2 * (by_ * (rows.length + m)) + 192 * by_ := by
      rw [Nat.add_mul, Nat.mul_assoc, Nat.mul_comm (rows.length + m) by_]
    omega
  have hneed : rows.length + m ≤ 2 ^ 45 := Nat.le_trans (by rw [Nat.succ_mul]; omega) hbig
  let cells : Array Value := olds'.toArray ++ Builtin.zeroCells zv'.cells m ++ Builtin.zeroCells zv'.cells (N - (rows.length + m))
  have hzsz : ∀ q, (Builtin.zeroCells zv'.cells q).size = q * z := by intro q; simp [Builtin.zeroCells, hzz]
  have hsize : cells.size = N * z := by
    simp only [cells, Array.size_append, List.size_toArray, hzsz, hol']
    rw [← Nat.add_mul, ← Nat.add_mul]
    congr 1; omega
  have hask : ∀ n, (askRoom n).run P w.drew = .ok () w.drew := by
    intro n
    unfold askRoom
    split <;> simp [mark, Sem.run, pure]
  have hfo : (Question.appendCap (rows.length + m) cap' el).forced = false := rfl
  have hinf : (typeInfo el).run P w = .ok inf w := run_info hin w
  have hinf' : (typeInfo el).run P w.drew = .ok inf w.drew := run_info hin _
  have hrow : (newRow el (olds'.toArray ++ (Builtin.zeroCells zv'.cells m ++ Builtin.zeroCells zv'.cells (N - (rows.length + m))))).run P w.drew = .ok ⟨w.heap.size, 0, none⟩ (w.drew.alloc (.cells cells el)) := by
    rw [← Array.append_assoc]
    simp [cells, newRow, newObj, Sem.run, Sem.bind, pure, bind, World.alloc]
  have hwm : IntKind.i64.wrap (m : Int) = m := wrap64_id (by omega) (by omega)
  have hmb : ¬ ((m : Int) * (inf.bytes : Int) > 281474976710656) := by
    rw [hbi]
    have h4 : m * by_ ≤ by_ * (rows.length + m) := by rw [Nat.mul_comm]; exact Nat.mul_le_mul_left _ (by omega)
    have h5 : ((m * by_ : Nat) : Int) ≤ 2 ^ 45 := by exact_mod_cast Nat.le_trans h4 h2'
    have h6 : ((m : Int) * (by_ : Int)) = ((m * by_ : Nat) : Int) := by simp
    omega
  have hmz : ¬ m * z = 0 := by
    have := Nat.mul_pos hm0 (Nat.pos_of_ne_zero hz)
    omega
  have hi3 : ¬ ((9223372036854775807 : Int) < (rows.length : Int) + (m : Int)) := by omega
  have hneg : ¬ ((m : Int) < 0) := by omega
  have hfit : ¬ rows.length + m ≤ cap' := by omega
  have hrl : ∀ row ∈ rows ++ List.replicate m zc, row.length = z := fun row hrow => (List.mem_append.1 hrow).elim (q2 row) (fun h => by rw [(List.mem_replicate.1 h).2]; exact hzl)
  have hpm : ∀ row ∈ rows ++ List.replicate m zc, ∀ d ∈ row, permOk d := fun row hrow => (List.mem_append.1 hrow).elim (q3 row) (fun h => by rw [(List.mem_replicate.1 h).2]; exact hzp)
  have hi := h.drew.newOwn (nm_ge d 0) hfr (vs := cells) (z := z) (cap := N) (rows := rows ++ List.replicate m zc) el hsize (by simpa using hN) hrl hpm (by
    intro i j row x hi hj
    have hnn : x.names = [] := (hpm row (List.mem_of_getElem? hi) x (List.mem_of_getElem? hj)).2
    have hjz : j < z := by rw [← hrl row (List.mem_of_getElem? hi)]; exact (List.getElem?_eq_some_iff.1 hj).1
    rcases rows_get hi with hi' | ⟨hge, hi'⟩
    · have hlt := idx_lt hjz (List.getElem?_eq_some_iff.1 hi').1
      obtain ⟨u, hu', hru⟩ := hog' i j row x hi' hj
      refine ⟨u, ?_, RepV.vkeep (w := w) (w' := w.drew) (lev' := lev) hru (fun _ _ h => h) (by rw [hnn]; simp)⟩
      simp only [cells]
      rw [Array.append_assoc, Array.getElem?_append_left (by simp [hol']; exact hlt)]
      simpa using hu'
    · have hr : row = zc := (List.mem_replicate.1 (List.mem_of_getElem? hi')).2
      subst hr
      have him : i - rows.length < m := by have := (List.getElem?_eq_some_iff.1 hi').1; simpa using this
      have hlt := idx_lt (z := z) hjz him
      have hge' : rows.length * z ≤ i * z := Nat.mul_le_mul_right z hge
      have e1 : i * z + j - rows.length * z = (i - rows.length) * z + j := by rw [Nat.sub_mul]; omega
      have hj2 : j < zv'.cells.size := by rw [hzz]; exact hjz
      refine ⟨zv'.cells[j], ?_, hzrep _ j _ x (by simp [hj2]) hj⟩
      simp only [cells]
      rw [Array.append_assoc, Array.getElem?_append_right (by simp [hol']; omega), Array.getElem?_append_left (by rw [hzsz]; simp only [List.size_toArray, hol']; omega)]
      simp only [List.size_toArray, hol', e1, Builtin.zeroCells, Array.getElem?_map]
      rw [Array.getElem?_eq_getElem (by simp [hzz]; exact hlt)]
      have hmod : ((i - rows.length) * z + j) % zv'.cells.size = j := by rw [hzz, Nat.add_comm, Nat.add_mul_mod_self_right, Nat.mod_eq_of_lt hjz]
      simp only [Option.map_some, Array.getElem_range, hmod]
      rw [getElem!_pos zv'.cells j hj2])
  refine upon_value rfl (u := .slice (some ⟨w.heap.size, 0, none⟩) (rows.length + m) N) ?_ (go_next hn hdf hnext hd (owned hi (by rw [setO_same]; simp) ⟨_, _, _, rfl⟩) hK)
  simp [execOp, resolve, invoke, builtin, hm, hyv, hv, Builtin.append_, Sem.run_bind, run_und hu, run_und hu2, run_lsize hl, asInt, asIntOf, hwm, hneg, hmb, hmz, hfit, hinf, hi3, hbytes, hfo, ← hNd, hask, hinf', hor', hzr, hrow, Sem.run, pure]
end
end
end Go.Abs
