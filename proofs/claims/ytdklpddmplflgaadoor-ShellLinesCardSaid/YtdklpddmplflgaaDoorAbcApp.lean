/- The builtin append; no theorem of a claim. -/
import Derived.Test.YtdklpddmplflgaaDoorAbcObj
set_option linter.unusedSimpArgs false
set_option linter.unusedVariables false
namespace Go.Abs

theorem growBy_le (m : Nat) : ∀ (k c : Nat), Builtin.growBy m k c ≤ max c (m + (m + 768) / 4)
  | 0, c => by simp [Builtin.growBy]; omega
  | k + 1, c => by
    unfold Builtin.growBy
    split
    · omega
    · refine Nat.le_trans (growBy_le m k _) ?_
      omega
theorem nextslicecap_le {m c : Nat} (h : c < m) : Builtin.nextslicecap m c ≤ 2 * m + 192 := by
  unfold Builtin.nextslicecap
  split
  · omega
  · split
    · omega
    · have := growBy_le m 4 c
      omega


/-- The value is a slice of these rows, whose cells can be read now. -/
def SlIs (w : World) (C : Cx) (v : Value) (z : Nat) (rows : List (List D)) : Prop :=
  ∃ a cap, v = .slice a rows.length cap ∧ rows.length ≤ cap ∧ (∀ r ∈ rows, r.length = z) ∧ (∀ r ∈ rows, ∀ d ∈ r, permOk d) ∧ (a = none → rows = []) ∧
    ∀ ad, a = some ad → ∀ (i j : Nat) row d, rows[i]? = some row → row[j]? = some d → ∃ u, w.cell? (ad.add (i * z + j)) = some u ∧ RepV C u d

/-- the same of cells that may name objects -/
def SlIsC (w : World) (C : Cx) (v : Value) (z : Nat) (rows : List (List D)) : Prop :=
  ∃ a cap, v = .slice a rows.length cap ∧ rows.length ≤ cap ∧ (∀ r ∈ rows, r.length = z) ∧ (∀ r ∈ rows, ∀ d ∈ r, cellOk d) ∧ (a = none → rows = []) ∧
    ∀ ad, a = some ad → ∀ (i j : Nat) row d, rows[i]? = some row → row[j]? = some d → ∃ u, w.cell? (ad.add (i * z + j)) = some u ∧ RepV C u d

section
variable {P : Program} {V : Cx} {w : World}
theorem SlIs.toC {v : Value} {z : Nat} {rows : List (List D)} (h : SlIs w V v z rows) : SlIsC w V v z rows := by
  obtain ⟨a, cap, h1, h2, h3, h4, h5, h6⟩ := h
  exact ⟨a, cap, h1, h2, h3, fun r hr d hd => (h4 r hr d hd).1, h5, h6⟩
theorem SlIsC.at {v : Value} {z : Nat} {rows : List (List D)} (h : SlIsC w V v z rows) {w' : World} (hc : w'.heap = w.heap) : SlIsC w' V v z rows := by
  obtain ⟨a, cap, rfl, h1, h2, h3, h4, h5⟩ := h
  refine ⟨a, cap, rfl, h1, h2, h3, h4, ?_⟩
  intro ad e i j row d hi hj
  obtain ⟨u, hu, hr⟩ := h5 ad e i j row d hi hj
  exact ⟨u, by rw [← hu]; simp only [World.cell?, hc], hr⟩
theorem SlIs.nil (z : Nat) (a : Option Addr) : SlIs w V (.slice a 0 0) z [] := ⟨a, 0, rfl, by simp, by simp, by simp, fun _ => rfl, by simp⟩
theorem SlIs.of_sl {v : Value} {z : Nat} {rows : List (List D)} (hV : ∀ a v, V.V a = some v → w.cell? a = some v) (h : RepV V v (.sl z rows)) : SlIs w V v z rows := by
  obtain ⟨a, cap, rfl, h1, h2, h3, h4, h5⟩ := h.sl_inv
  refine ⟨a, cap, rfl, h1, h2, h3, fun e => (h4 e).1, ?_⟩
  intro ad e i j row d hi hj
  obtain ⟨u, hu, hr⟩ := h5 ad e i j row d hi hj
  exact ⟨u, hV _ _ hu, hr⟩
theorem SlIs.mono {C' : Cx} {v : Value} {z : Nat} {rows : List (List D)} (h : SlIs w V v z rows) (hV : ∀ a v, V.V a = some v → C'.V a = some v) : SlIs w C' v z rows := by
  obtain ⟨a, cap, rfl, h1, h2, h3, h4, h5⟩ := h
  refine ⟨a, cap, rfl, h1, h2, h3, h4, ?_⟩
  intro ad e i j row d hi hj
  obtain ⟨u, hu, hr⟩ := h5 ad e i j row d hi hj
  refine ⟨u, hu, hr.keep hV ?_⟩
  intro s hs
  rw [(h3 row (List.mem_of_getElem? hi) d (List.mem_of_getElem? hj)).2] at hs
  cases hs
theorem SlIs.at {v : Value} {z : Nat} {rows : List (List D)} (h : SlIs w V v z rows) {w' : World} (hc : w'.heap = w.heap) : SlIs w' V v z rows := by
  obtain ⟨a, cap, rfl, h1, h2, h3, h4, h5⟩ := h
  refine ⟨a, cap, rfl, h1, h2, h3, h4, ?_⟩
  intro ad e i j row d hi hj
  obtain ⟨u, hu, hr⟩ := h5 ad e i j row d hi hj
  exact ⟨u, by rw [← hu]; simp only [World.cell?, hc], hr⟩

theorem cells_at {z : Nat} (hz : z ≠ 0) {rows : List (List D)} {x : Value} (hx : SlIsC w V x z rows) :
    ∃ cs : List Value, (Builtin.firstCells z rows.length x).run P w = .ok cs.toArray w ∧ cs.length = rows.length * z ∧
      (∀ (i j : Nat) r d, rows[i]? = some r → r[j]? = some d → ∃ u, cs[i * z + j]? = some u ∧ RepV V u d) ∧ ∀ u ∈ cs, u.oneCell' = true := by
  obtain ⟨a, cap, rfl, hcap, hrl, hk, hnone, hc⟩ := hx
  cases a with
  | none =>
    have := hnone rfl
    subst this
    exact ⟨[], by simp [Builtin.firstCells, Sem.run, pure], by simp, by simp, by simp⟩
  | some ad =>
    have hcell : ∀ m, m < rows.length * z → ∃ u d, w.cell? (ad.add m) = some u ∧ RepV V u d ∧ cellOk d := by
      intro m hm
      have hi : m / z < rows.length := Nat.div_lt_of_lt_mul (by rw [Nat.mul_comm]; exact hm)
      have hr : rows[m / z]? = some rows[m / z] := List.getElem?_eq_getElem hi
      have hrz := hrl _ (List.getElem_mem hi)
      have hj : m % z < (rows[m / z]).length := by rw [hrz]; exact Nat.mod_lt _ (Nat.pos_of_ne_zero hz)
      have hd : (rows[m / z])[m % z]? = some (rows[m / z])[m % z] := List.getElem?_eq_getElem hj
      obtain ⟨u, hu, hru⟩ := hc ad rfl _ _ _ _ hr hd
      have e : m / z * z + m % z = m := by rw [Nat.mul_comm]; exact Nat.div_add_mod m z
      rw [e] at hu
      exact ⟨u, _, hu, hru, hk _ (List.getElem_mem hi) _ (List.getElem_mem hj)⟩
    let f : Nat → Value := fun m => (w.cell? (ad.add m)).getD Go.undef
    have hlen : ((List.range (rows.length * z)).map f).length = rows.length * z := by simp
    have hget : ∀ m, m < rows.length * z → ((List.range (rows.length * z)).map f)[m]? = some (f m) := by
      intro m hm
      simp [hm]
    refine ⟨(List.range (rows.length * z)).map f, ?_, hlen, ?_, ?_⟩
    · have := run_loadCells_list (P := P) (w := w) ad ((List.range (rows.length * z)).map f) ?_
      · rw [hlen] at this
        simpa [Builtin.firstCells] using this
      · intro m v hm
        have hlt : m < rows.length * z := by
          have := (List.getElem?_eq_some_iff.1 hm).1
          simpa using this
        rw [hget m hlt] at hm
        cases hm
        obtain ⟨u, d, hu, _⟩ := hcell m hlt
        simp only [f, hu, Option.getD_some]
    · intro i j r d hi hj
      have hrz := hrl r (List.mem_of_getElem? hi)
      have hil := (List.getElem?_eq_some_iff.1 hi).1
      have hjl : j < z := by rw [← hrz]; exact (List.getElem?_eq_some_iff.1 hj).1
      have hlt : i * z + j < rows.length * z := idx_lt hjl hil
      obtain ⟨u, hu, hru⟩ := hc ad rfl i j r d hi hj
      exact ⟨u, by rw [hget _ hlt]; simp [f, hu], hru⟩
    · intro u hu
      obtain ⟨m, hm⟩ := List.mem_iff_getElem?.1 hu
      have hlt : m < rows.length * z := by
        have := (List.getElem?_eq_some_iff.1 hm).1
        simpa using this
      rw [hget m hlt] at hm
      cases hm
      obtain ⟨u, d, hu, hr, hk'⟩ := hcell m hlt
      simp only [f, hu, Option.getD_some]
      exact (rep_one hr hk').1
theorem rows_get {rows rows2 : List (List D)} {i : Nat} {r : List D} (h : (rows ++ rows2)[i]? = some r) : rows[i]? = some r ∨ (rows.length ≤ i ∧ rows2[i - rows.length]? = some r) := by
  by_cases hi : i < rows.length
  · rw [List.getElem?_append_left hi] at h; exact .inl h
  · rw [List.getElem?_append_right (by omega)] at h; exact .inr ⟨by omega, h⟩

/-- a new array -/
theorem app_growG {T T2 : TypeId} {z by_ : Nat} {ea : Bool} (hT : tyT P T = .slice z by_ ea) (hT2 : ∃ e, P.underlying T2 = some (.slice e)) {a : Option Addr} {cap : Nat} {y : Value} {rows rows2 : List (List D)}
    (hx : SlIsC w V (.slice a rows.length cap) z rows) (hy : SlIsC w V y z rows2) (hfit : ¬ rows.length + rows2.length ≤ cap) (hroom : Builtin.nextslicecap (rows.length + rows2.length) cap * by_ ≤ 2 ^ 48) (hneed : rows.length + rows2.length ≤ 2 ^ 48) (T3 : TypeId) :
    ∃ (N : Nat) (e : TypeId) (cells : Array Value), rows.length + rows2.length ≤ N ∧ cells.size = N * z ∧
      (Builtin.append_ #[T, T2] T3 #[.slice a rows.length cap, y]).run P w = .ok (.slice (some ⟨w.heap.size, 0, none⟩) (rows.length + rows2.length) N) (w.drew.alloc (.cells cells e)) ∧
      ∀ (i j : Nat) row d, (rows ++ rows2)[i]? = some row → row[j]? = some d → ∃ u, cells[i * z + j]? = some u ∧ RepV V u d := by
  obtain ⟨e, inf, hu, hl, hin, hbi, hz, zv, hzv, hzz⟩ := tyT_slice hT
  obtain ⟨e2, hu2⟩ := hT2
  have hdw : (w.drew).heap = w.heap := rfl
  have hx' := hx
  have hy' := hy
  obtain ⟨a2, cap2, hyv, hcap2, hrl2, hk2, hnone2, hc2⟩ := hy'
  obtain ⟨a1, cap1, hxv, hcap1, hrl1, hk1, hnone1, hc1⟩ := hx'
  cases hxv
  subst hyv
  have hcl : cap < rows.length + rows2.length := by omega
  have hbytes : ¬ Builtin.nextslicecap (rows.length + rows2.length) cap * inf.bytes > 2 ^ 48 := by
    rw [hbi]; omega
  obtain ⟨news', hnr', hnl', hng', -⟩ := cells_at (P := P) (w := w.drew) hz (hy.at hdw)
  obtain ⟨olds', hor', hol', hog', -⟩ := cells_at (P := P) (w := w.drew) hz (hx.at hdw)
  obtain ⟨N, hNd⟩ : ∃ N, N = (Question.appendCap (rows.length + rows2.length) cap e).cut (w.tape w.drawn (.appendCap (rows.length + rows2.length) cap e)) := ⟨_, rfl⟩
  have hN : rows.length + rows2.length ≤ N := by rw [hNd]; simp only [Question.cut]; omega
  let cells : Array Value := olds'.toArray ++ news'.toArray ++ Builtin.zeroCells zv.cells (N - (rows.length + rows2.length))
  have hsize : cells.size = N * z := by
    simp only [cells, Builtin.zeroCells, Array.size_append, List.size_toArray, Array.size_map, Array.size_range, hol', hnl', hzz]
    rw [← Nat.add_mul, ← Nat.add_mul]
    congr 1; omega
  have hask : ∀ n, (askRoom n).run P w.drew = .ok () w.drew := by
    intro n
    unfold askRoom
    split <;> simp [mark, Sem.run, pure]
  have hfo : (Question.appendCap (rows.length + rows2.length) cap e).forced = false := rfl
  have hzr : (zeroValue e).run P w.drew = .ok zv w.drew := by
    simp [zeroValue, Sem.run_bind, run_info hin, hzv, Sem.run, pure]
  have hinf : (typeInfo e).run P w = .ok inf w := run_info hin w
  have hinf' : (typeInfo e).run P w.drew = .ok inf w.drew := run_info hin _
  refine ⟨N, e, cells, hN, hsize, ?_, ?_⟩
  · have hrow : (newRow e cells).run P w.drew = .ok ⟨w.heap.size, 0, none⟩ (w.drew.alloc (.cells cells e)) := by
      simp [newRow, newObj, Sem.run, Sem.bind, pure, bind, World.alloc]
    have hi3 : ¬ ((9223372036854775807 : Int) < (rows.length : Int) + (rows2.length : Int) ∧ inf.bytes = 0) := by omega
    have hb3 : ¬ 281474976710656 < Builtin.nextslicecap (rows.length + rows2.length) cap * inf.bytes := by
      intro hh; exact hbytes (by simpa using hh)
    have hrow' : (newRow e (olds'.toArray ++ (news'.toArray ++ Builtin.zeroCells zv.cells (N - (rows.length + rows2.length))))).run P w.drew = .ok ⟨w.heap.size, 0, none⟩ (w.drew.alloc (.cells cells e)) := by
      rw [← Array.append_assoc]; exact hrow
    simp [Builtin.append_, Sem.run_bind, run_und hu, run_und hu2, run_lsize hl, Builtin.lenOf, hfit, hinf, hi3, hb3, hfo, ← hNd, hask, hinf', hor', hnr', hzr, hrow', Sem.run, pure]
  · intro i j r d hi hj
    have hrlen : ∀ r ∈ rows ++ rows2, r.length = z := by
      intro r hr
      rcases List.mem_append.1 hr with hr | hr
      · exact hrl1 r hr
      · exact hrl2 r hr
    have hjz : j < z := by
      have := hrlen r (List.mem_of_getElem? hi)
      rw [← this]; exact (List.getElem?_eq_some_iff.1 hj).1
    rcases rows_get hi with hi' | ⟨hge, hi'⟩
    · have hlt := idx_lt hjz (List.getElem?_eq_some_iff.1 hi').1
      obtain ⟨u, hu', hru⟩ := hog' i j r d hi' hj
      refine ⟨u, ?_, hru⟩
      simp only [cells]
      rw [Array.append_assoc, Array.getElem?_append_left (by simp [hol']; exact hlt)]
      simpa using hu'
    · obtain ⟨u, hu', hru⟩ := hng' _ j r d hi' hj
      have hge' : rows.length * z ≤ i * z := Nat.mul_le_mul_right z hge
      have e1 : i * z + j - rows.length * z = (i - rows.length) * z + j := by rw [Nat.sub_mul]; omega
      have hlt : (i - rows.length) * z + j < news'.length := (List.getElem?_eq_some_iff.1 hu').1
      refine ⟨u, ?_, hru⟩
      simp only [cells]
      rw [Array.append_assoc, Array.getElem?_append_right (by simp [hol']; omega), Array.getElem?_append_left (by simp [hol']; omega)]
      simp only [List.size_toArray, hol', e1]
      simpa using hu'
theorem app_grow {T T2 : TypeId} {z by_ : Nat} {ea : Bool} (hT : tyT P T = .slice z by_ ea) (hT2 : ∃ e, P.underlying T2 = some (.slice e)) {a : Option Addr} {cap : Nat} {y : Value} {rows rows2 : List (List D)}
    (hx : SlIsC w V (.slice a rows.length cap) z rows) (hy : SlIsC w V y z rows2) (hfit : ¬ rows.length + rows2.length ≤ cap) (hb : (by_ + 1) * (rows.length + rows2.length) ≤ 2 ^ 45) (hby : by_ ≤ 2 ^ 32) (T3 : TypeId) :
    ∃ (N : Nat) (e : TypeId) (cells : Array Value), rows.length + rows2.length ≤ N ∧ cells.size = N * z ∧
      (Builtin.append_ #[T, T2] T3 #[.slice a rows.length cap, y]).run P w = .ok (.slice (some ⟨w.heap.size, 0, none⟩) (rows.length + rows2.length) N) (w.drew.alloc (.cells cells e)) ∧
      ∀ (i j : Nat) row d, (rows ++ rows2)[i]? = some row → row[j]? = some d → ∃ u, cells[i * z + j]? = some u ∧ RepV V u d := by
  refine app_growG hT hT2 hx hy hfit ?_ ?_ T3
  · have hnext := nextslicecap_le (m := rows.length + rows2.length) (c := cap) (by omega)
    have h1 : Builtin.nextslicecap (rows.length + rows2.length) cap * by_ ≤ (2 * (rows.length + rows2.length) + 192) * by_ := Nat.mul_le_mul_right _ hnext
    have h2 : by_ * (rows.length + rows2.length) ≤ 2 ^ 45 := Nat.le_trans (by rw [Nat.succ_mul]; omega) hb
    have h3 : (2 * (rows.length + rows2.length) + 192) * by_ = 2 * (by_ * (rows.length + rows2.length)) + 192 * by_ := by
      rw [Nat.add_mul, Nat.mul_assoc, Nat.mul_comm (rows.length + rows2.length) by_]
    omega
  · refine Nat.le_trans (Nat.le_trans ?_ hb) (by omega)
    rw [Nat.succ_mul]; omega
/-- there is room -/
theorem app_fit {T T2 : TypeId} {z by_ : Nat} {ea : Bool} (hT : tyT P T = .slice z by_ ea) (hT2 : ∃ e, P.underlying T2 = some (.slice e)) {a : Option Addr} {len cap : Nat} {y : Value} {rows2 : List (List D)}
    (hy : SlIsC w V y z rows2) (hfit : len + rows2.length ≤ cap) (T3 : TypeId) : ∃ news : List Value, news.length = rows2.length * z ∧ (∀ (i j : Nat) r d, rows2[i]? = some r → r[j]? = some d → ∃ u, news[i * z + j]? = some u ∧ RepV V u d) ∧ (∀ u ∈ news, u.oneCell' = true) ∧
      ∀ w'', (match a with | some ad => storeCells (ad.add (len * z)) news | none => pure () : Sem Unit).run P w = .ok () w'' → (Builtin.append_ #[T, T2] T3 #[.slice a len cap, y]).run P w = .ok (.slice a (len + rows2.length) cap) w'' := by
  obtain ⟨e, inf, hu, hl, hin, hbi, hz, zv, hzv, hzz⟩ := tyT_slice hT
  obtain ⟨e2, hu2⟩ := hT2
  obtain ⟨news, hnr, hnl, hng, hn1⟩ := cells_at (P := P) (w := w) hz hy
  refine ⟨news, hnl, hng, hn1, ?_⟩
  intro w'' hst
  obtain ⟨a2, cap2, rfl, _⟩ := hy
  cases a with
  | none =>
    have : w'' = w := by simpa [Sem.run, pure] using hst.symm
    subst this
    simp [Builtin.append_, Sem.run_bind, run_und hu, run_und hu2, run_lsize hl, Builtin.lenOf, hfit, hnr, Sem.run, pure]
  | some ad =>
    simp only at hst
    simp [Builtin.append_, Sem.run_bind, run_und hu, run_und hu2, run_lsize hl, Builtin.lenOf, hfit, hnr, hst, Sem.run, pure]
end

section
variable {P : Program} {w0 w w' : World} {l0 : Nat → Option Nat} {G : Nat → Option (Nat × Nat)} {S0 : Nat → Option Value} {lev lev' own own' : Nat → Option Nat} {S S' : Nat → Option Value} {env env' : Env} {tm tm' : Nat → Value}

theorem SlIs.perm {v : Value} {z : Nat} {rows : List (List D)} (h : SlIs w (cx w lev S) v z rows) (S' : Nat → Option Value) : SlIs w (cx w lev S') v z rows := h.mono fun _ _ h => h

/-- an append to what has no place to spare and is nobody's: nil, or a slice of no cells -/
theorem Inv.append0 (h : Inv w0 l0 G S0 w lev own S env tm) {N : Nat} (h16 : 16 ≤ N) (hf : env.o N = .undef) {T T2 : TypeId} {z by_ : Nat} {ea : Bool} (hT : tyT P T = .slice z by_ ea) (hT2 : ∃ e, P.underlying T2 = some (.slice e))
    {a : Option Addr} {y : Value} {rows2 : List (List D)} (hy : SlIs w (cx w lev S) y z rows2) (hb : (by_ + (1 - by_)) * rows2.length ≤ 2 ^ 47) (T3 : TypeId) :
    ∃ v w' lev' own' S', (Builtin.append_ #[T, T2] T3 #[.slice a 0 0, y]).run P w = .ok v w' ∧ Inv w0 l0 G S0 w' lev' own' S' (updO env N (.own z rows2)) tm ∧ S' N = some v ∧ ∃ a l c, v = .slice a l c := by
  obtain ⟨e, inf, hu, hl, hin, hbi, hz, zv, hzv, hzz⟩ := tyT_slice hT
  by_cases h0 : rows2 = []
  · subst h0
    obtain ⟨news, hnl, _, _, hrun⟩ := app_fit (P := P) (w := w) (V := cx w lev S) hT hT2 (a := a) (len := 0) (cap := 0) hy.toC (by simp) T3
    have : news = [] := List.length_eq_zero_iff.1 (by simpa using hnl)
    subst this
    refine ⟨.slice a 0 0, w, lev, own, _, ?_, h.newEmp h16 hf z a, setO_same _ _ _, _, _, _, rfl⟩
    exact hrun w (by cases a <;> simp [storeCells, Sem.run, pure])
  · have hfit : ¬ ([] : List (List D)).length + rows2.length ≤ 0 := by
      have := List.length_pos_iff.2 h0
      simp; omega
    have hpos := List.length_pos_iff.2 h0
    have hroom : Builtin.nextslicecap (([] : List (List D)).length + rows2.length) 0 * by_ ≤ 2 ^ 48 := by
      have e : Builtin.nextslicecap (([] : List (List D)).length + rows2.length) 0 = rows2.length := by
        unfold Builtin.nextslicecap
        rw [if_pos (by simp; omega)]; simp
      rw [e, Nat.mul_comm]
      refine Nat.le_trans (Nat.le_trans (Nat.mul_le_mul_right _ (Nat.le_add_right _ (1 - by_))) hb) (by omega)
    have hneed : ([] : List (List D)).length + rows2.length ≤ 2 ^ 48 := by
      have h1 : 1 * rows2.length ≤ (by_ + (1 - by_)) * rows2.length := Nat.mul_le_mul_right _ (by omega)
      simp only [List.length_nil]; omega
    obtain ⟨M, e', cells, h1, h2, h3, h4⟩ := app_growG (P := P) (w := w) (V := cx w lev S) hT hT2 (a := a) (cap := 0) (rows := []) (SlIs.nil z a).toC hy.toC hfit hroom hneed T3
    obtain ⟨a2, cap2, rfl, hcap2, hrl2, hk2, hnone2, hc2⟩ := hy
    have hi := h.drew.newOwn h16 hf (vs := cells) (z := z) (cap := M) (rows := rows2) e' h2 (by simpa using h1) hrl2 hk2 (by
      intro i j row d hi hj
      obtain ⟨u, hu, hru⟩ := h4 i j row d (by simpa using hi) hj
      exact ⟨u, hu, RepV.vkeep (w := w) (w' := w.drew) (lev' := lev) hru (fun _ _ h => h) (fun _ _ _ h => h)⟩)
    refine ⟨_, _, _, _, _, h3, hi, ?_, _, _, _, rfl⟩
    rw [setO_same]; simp

/-- an append to a slice of the frame's own, which is used up -/
theorem Inv.append1 (h : Inv w0 l0 G S0 w lev own S env tm) {r N : Nat} {rows : List (List D)} {z : Nat} (he : env.o r = .own z rows) (h16 : 16 ≤ N) (hf : (killE r env).o N = .undef) {T T2 : TypeId} {by_ : Nat} {ea : Bool} (hT : tyT P T = .slice z by_ ea) (hT2 : ∃ e, P.underlying T2 = some (.slice e))
    {x y : Value} (hx : S r = some x) {rows2 : List (List D)} (hy : SlIs w (cx w lev S) y z rows2) (hb : (by_ + 1) * (rows.length + rows2.length) ≤ 2 ^ 45) (hby : by_ ≤ 2 ^ 32) (T3 : TypeId) :
    ∃ v w' lev' own' S', (Builtin.append_ #[T, T2] T3 #[x, y]).run P w = .ok v w' ∧ Inv w0 l0 G S0 w' lev' own' S' (updO (killE r env) N (.own z (rows ++ rows2))) tm ∧ S' N = some v ∧ ∃ a l c, v = .slice a l c := by
  have hk := h.kill r
  have hobj := h.objs r
  rw [he] at hobj
  rcases hobj with ⟨a, h1, rfl⟩ | ⟨b, c, E, cap, h1, h2, h3, h4, h5, h6, h7, h8, h9, h10⟩
  · rw [h1] at hx
    cases hx
    exact hk.append0 h16 hf hT hT2 (hy.perm _) (by
      have h1 : (by_ + (1 - by_)) * rows2.length ≤ (by_ + 1) * rows2.length := Nat.mul_le_mul_right _ (by omega)
      have h2 : (by_ + 1) * rows2.length ≤ 2 ^ 45 := by simpa using hb
      omega) T3
  rw [h1] at hx
  cases hx
  have hy' := hy
  obtain ⟨a2, cap2, hyv, hcap2, hrl2, hk2, hnone2, hc2⟩ := hy'
  have hrl : ∀ row ∈ rows ++ rows2, row.length = z := by
    intro row hrow
    rcases List.mem_append.1 hrow with hrow | hrow
    · exact h5 row hrow
    · exact hrl2 row hrow
  have hpm : ∀ row ∈ rows ++ rows2, ∀ d ∈ row, permOk d := by
    intro row hrow
    rcases List.mem_append.1 hrow with hrow | hrow
    · exact h6 row hrow
    · exact hk2 row hrow
  have hx : SlIs w (cx w lev S) (.slice (some ⟨b, 0, none⟩) rows.length cap) z rows := by
    refine ⟨_, cap, rfl, h4, h5, h6, (fun e => by cases e), ?_⟩
    rintro ad ⟨⟩ i j row d hi hj
    obtain ⟨u, hu, hru⟩ := h10 i j row d hi hj
    exact ⟨u, by rw [add_off, Nat.zero_add, cell_at w b _ h2]; exact hu, hru⟩
  by_cases hfit : rows.length + rows2.length ≤ cap
  · obtain ⟨news, hnl, hng, hn1, hrun⟩ := app_fit (P := P) (w := w) (V := cx w lev S) hT hT2 (a := some ⟨b, 0, none⟩) (len := rows.length) (cap := cap) hy.toC hfit T3
    have hroom : 0 + rows.length * z + news.length ≤ c.size := by
      rw [hnl, h3, Nat.zero_add, ← Nat.add_mul]
      exact Nat.mul_le_mul_right z hfit
    have hst := run_storeCells (P := P) b (rows.length * z) E news 0 c w h2 (by simpa using hroom) hn1
    simp only [Nat.add_zero] at hst
    have hget : ∀ j, (writeAt c (rows.length * z) news)[j]? = if rows.length * z ≤ j ∧ j < rows.length * z + news.length then news[j - rows.length * z]? else c[j]? :=
      fun j => writeAt_get news c _ j (by simpa using hroom)
    have hvl : VisLe w lev (setBlk w b (writeAt c (rows.length * z) news) E) lev := visLe_setBlk h7
    refine ⟨_, setBlk w b (writeAt c (rows.length * z) news) E, lev, setO own b (some N), setO (setO S r none) N (some (.slice (some ⟨b, 0, none⟩) (rows.length + rows2.length) cap)), hrun _ (by simpa [add_off] using hst), ?_, setO_same _ _ _, _, _, _, rfl⟩
    have hSN := hk.fresh hf
    refine hk.setObj (went_setBlk h h2 (writeAt_size _ _ _) h9 (fun j hj => ?_)) hvl (fun s hs => setO_ne _ _ hs) (fun u hu => by rw [hSN] at hu; cases hu) (.inl h16) ?_ ?_
    · rcases hj with hj | hj
      · omega
      · rw [hget, if_neg (by omega)]
    · intro b' s hs hlive hb' _
      have : b' ≠ b := by
        rintro rfl
        rw [h8] at hb'
        cases hb'
        exact hlive (by simp [killE])
      exact ⟨setBlk_ne this _ _, rfl, setO_ne _ _ this⟩
    · refine .inr ⟨b, _, E, cap, by rw [setO_same, List.length_append], setBlk_same (lt_of_block h2) _ _, by rw [writeAt_size]; exact h3, by rw [List.length_append]; exact hfit, hrl, hpm, h7, setO_same _ _ _, by rw [writeAt_size]; exact h9, ?_⟩
      intro i j row d hi hj
      have hjz : j < z := by
        rw [← hrl row (List.mem_of_getElem? hi)]; exact (List.getElem?_eq_some_iff.1 hj).1
      have hnn : d.names = [] := (hpm row (List.mem_of_getElem? hi) d (List.mem_of_getElem? hj)).2
      rw [hget]
      rcases rows_get hi with hi' | ⟨hge, hi'⟩
      · have hlt := idx_lt hjz (List.getElem?_eq_some_iff.1 hi').1
        rw [if_neg (by omega)]
        obtain ⟨u, hu', hru⟩ := h10 i j row d hi' hj
        exact ⟨u, hu', hru.vkeep hvl (by rw [hnn]; simp)⟩
      · obtain ⟨u, hu', hru⟩ := hng _ j row d hi' hj
        have hge' : rows.length * z ≤ i * z := Nat.mul_le_mul_right z hge
        have e1 : i * z + j - rows.length * z = (i - rows.length) * z + j := by rw [Nat.sub_mul]; omega
        have hlt : (i - rows.length) * z + j < news.length := (List.getElem?_eq_some_iff.1 hu').1
        rw [if_pos (by omega), e1]
        exact ⟨u, hu', hru.vkeep hvl (by rw [hnn]; simp)⟩
  · obtain ⟨M, e', cells, g1, g2, g3, g4⟩ := app_grow (P := P) (w := w) (V := cx w lev S) hT hT2 hx.toC hy.toC hfit hb hby T3
    have hi := hk.drew.newOwn h16 hf (vs := cells) (z := z) (cap := M) (rows := rows ++ rows2) e' g2 (by rw [List.length_append]; exact g1) hrl hpm (by
      intro i j row d hi hj
      obtain ⟨u, hu, hru⟩ := g4 i j row d hi hj
      have hnn : d.names = [] := (hpm row (List.mem_of_getElem? hi) d (List.mem_of_getElem? hj)).2
      exact ⟨u, hu, RepV.vkeep (w := w) (w' := w.drew) (lev' := lev) hru (fun _ _ h => h) (by rw [hnn]; simp)⟩)
    refine ⟨_, _, _, _, _, g3, hi, ?_, _, _, _, rfl⟩
    rw [setO_same, List.length_append]; rfl
end
end Go.Abs
