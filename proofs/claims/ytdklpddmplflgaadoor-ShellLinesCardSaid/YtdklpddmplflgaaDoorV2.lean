/- Numbers and words, by the library and by the reference; no theorem of a claim. -/
import Derived.Test.YtdklpddmplflgaaDoorV0
import Derived.Test.YtdklpddmplflgaaDoorV1
import Derived.Test.YtdklpddmplflgaaDoorShelf
import Derived.Test.YtdklpddmplflgaaDoorAbcLib
import Derived.Lib.AppendIntMem
import Derived.Lib.SplitLaws
set_option linter.unusedSimpArgs false
set_option linter.unusedVariables false
namespace Go.Proofs.YtdklpddmplflgaaDoor
open Go.Abs
open Go.Lib (itoa decDigits atoiAll)
theorem Spec.frozen {P : Program} {f : FuncId} {ds hs' : List D} {d : D} (h : Abs.Spec P f [] ds hs' d) (fz : List Nat) {hs2 : List D} {d2 : D} (hd : (frzEL fz (mkE [(0, d)] (osL 0 hs'))).t 0 = d2) (ho : ∀ r, (frzEL fz (mkE [(0, d)] (osL 0 hs'))).o r = hs2.getD r .undef) : Abs.Spec P f [] ds hs2 d2 := by
  refine ⟨h.1, ?_⟩
  intro w l0 G0 own0 S0 vs hT hl0 hG hsz hr hobj
  refine (h.2 w l0 G0 own0 S0 vs hT hl0 hG hsz hr hobj).mono ?_
  rintro e w' ⟨v, rfl, o⟩
  refine ⟨v, rfl, o.os, o.tape, o.output, o.size, o.old, o.part, ?_⟩
  obtain ⟨lev, own, S, h1, h2, h3, h4, _⟩ := o.rep
  have hi : Inv w l0 G0 S w' lev own S (mkE [(0, d)] (osL 0 hs')) (fun j => if j = 0 then v else Go.undef) := by
    refine ⟨⟨o.os, hT⟩, o.tape, o.output, o.size, o.old, o.part, h1, h2, fun _ _ _ => rfl, ?_, ?_⟩
    · intro s
      show RepV _ _ (Abs.look [(0, d)] s)
      by_cases hs : s = 0
      · subst hs; simpa [Abs.look] using h3
      · simp only [Abs.look, if_neg hs]; exact .undef _
    · intro r
      show ObjAt _ _ _ _ _ _ r (Abs.look (osL 0 hs') r)
      rw [osL_look]
      simpa using h4 r
  obtain ⟨lev', S', hi'⟩ := Inv.frzL fz hi (fun _ _ => trivial)
  refine ⟨lev', own, S', hi'.priv, hi'.levOld, ?_, ?_, fun i h => by cases h⟩
  · have := hi'.temps 0
    rw [hd] at this
    simpa using this
  · intro r
    have := hi'.objs r
    rwa [ho] at this
def txtsB (l : List (List UInt8)) : List (List D) := l.map fun s => [.str (B s)]
@[go_sem] theorem txtsB_len (l : List (List UInt8)) : (txtsB l).length = l.length := by simp [txtsB]
theorem txtsB_at (l : List (List UInt8)) {i : Nat} (hi : i < l.length) : (txtsB l).getD i [] = [.str (B l[i])] := by
  simp [txtsB, hi]
theorem txtsB_app (l : List (List UInt8)) (x : List UInt8) : txtsB (l ++ [x]) = txtsB l ++ [[.str (B x)]] := by simp [txtsB]
theorem itoa_len (n : Int) (h : I64 n) : (itoa n).length ≤ 21 := Go.Lib.itoa_length_le n h.1 h.2
theorem tailN_step (ns : List Int) {i : Nat} (hi : i < ns.length) : tailN (ns.take (i + 1)) = tailN (ns.take i) ++ 32 :: itoa ns[i] := by
  rw [List.take_succ_eq_append_getElem hi, tailN, List.flatMap_append]; simp [tailN]
theorem itoa_spec (n : Int) (h : I64 n) : Abs.Spec Tryd.prog 12 [] [.int .i64 n] [] (.str (B (itoa n))) := by
  refine Spec.of_calls ⟨_, Tryd.func12, rfl, rfl⟩ ?_ (by simp [D.names])
  intro w l0 S0 vs hT hlev hsz hr
  obtain ⟨v0, rfl⟩ : ∃ v0, vs = #[v0] := by
    obtain ⟨l⟩ := vs
    match l, hsz with
    | [a], _ => exact ⟨a, rfl⟩
  obtain rfl := (hr 0 v0 _ rfl rfl).int_inv
  refine (Tryd.strconv_Itoa n h.1 h.2 w ?_).mono ?_
  · obtain ⟨E, x, c, hh, hc⟩ := hT (0, .ints .u64 Go.Lib.pow10Tab) (by unfold tabs; simp only [List.mem_cons, true_or, or_true])
    have hc : c = (Go.Lib.pow10Tab.map fun n => Value.int .u64 n).toArray := hc
    subst hc
    have hh : w.heap[0]? = some (.cells (Go.Lib.pow10Tab.map fun n => Value.int .u64 n).toArray E x) := hh
    show World.var? _ _ _ = _
    unfold World.var?
    rw [show Tryd.prog.globalNamed "internal/strconv.uint64pow10" = some 0 from by kernel_rfl]
    simp only [Option.bind_some, hh]
  · rintro e w' ⟨rfl, k, os, rfl⟩
    exact ⟨_, rfl, Go.Lib.below_grow _ w (Nat.le_refl _) k os, .str _⟩
theorem spl_at (l : List UInt8) {i f : Nat} (hi : i < l.length) (hf : f ≤ i) : spl (l.drop i) ((l.drop f).take (i - f)) = if l[i] = 32 then (l.drop f).take (i - f) :: spl (l.drop (i + 1)) [] else spl (l.drop (i + 1)) ((l.drop f).take (i + 1 - f)) := by
  have hd : l.drop i = l[i] :: l.drop (i + 1) := List.drop_eq_getElem_cons hi
  have ht : (l.drop f).take (i + 1 - f) = (l.drop f).take (i - f) ++ [l[i]] := by
    rw [show i + 1 - f = (i - f) + 1 by omega, List.take_succ_eq_append_getElem (by simp; omega)]
    simp [show f + (i - f) = i by omega]
  rw [hd, spl, ht]
theorem words_own (l : List UInt8) (hl : l.length ≤ 2 ^ 40) : Abs.Spec Tryd.prog 22 [] [.str (B l)] [.own 1 (txtsB (spl l []))] (.ref 0) := by
  refine sgo 32 1 [.tmp 2] mixed Tryd.func22 ?_
  simp only [go_sem, seval]
  refine LoopK.walk (S := Nat × List (List UInt8)) (l.length + 1) [0] [] (fun i s => [(3, .ref 464), (4, .int .i64 s.1), (5, .int .i64 i)]) (fun i s => [(464, .own 1 (txtsB s.2))]) (fun i s => s.1 ≤ i ∧ s.2.length ≤ i ∧ (i ≤ l.length → s.2 ++ spl (l.drop i) ((l.drop s.1).take (i - s.1)) = spl l []) ∧ (i = l.length + 1 → s.2 = spl l [])) (0, []) ⟨Nat.le_refl _, Nat.le_refl _, by simp, by simp⟩ ?_ ?_ ?_
  · simp only [go_sem, seval] <;> simp [txtsB]
  · intro i s hi _ _ hI
    obtain ⟨f, out⟩ := s
    obtain ⟨h1, h2, h3, _⟩ := hI
    simp only at h1 h2 h3
    have h3 := h3 (by omega)
    have hdi : decide ((i : Int) ≤ (l.length : Int)) = true := decide_eq_true (by omega)
    have hwi : IntKind.wrap .i64 ((i : Int) + 1) = ((i + 1 : Nat) : Int) := by rw [wr64 (by omega) (by omega)]; omega
    have hx : ((i : Int).toNat - (f : Int).toNat) = i - f := by omega
    simp only [go_sem, seval, B_size, hdi]
    (with_reducible and_intros)<;>first|exact .dq|omega|skip
    by_cases hz : i = l.length
    · have q : ((i : Int) == (l.length : Int)) = true := by rw [beq_iff_eq]; omega
      have hs := h3
      rw [hz, List.drop_length, spl, ← hz] at hs
      simp only [go_sem, seval, B_size, q, B_ext, hwi]
      (with_reducible and_intros)<;>first|exact .dq|omega|skip
      refine RoundK.step (i + 1, out ++ [(l.drop f).take (i - f)]) hi ?_ ?_
      · exact ⟨by omega, by simp; omega, fun h => by omega, fun _ => hs⟩
      simp only [go_sem, seval, txtsB_app, Int.toNat_natCast]
    · have q : ((i : Int) == (l.length : Int)) = false := by rw [beq_eq_false_iff_ne]; omega
      have hil : i < l.length := by omega
      have hat := B_at l i hil
      have hs := spl_at l hil h1
      rw [hs] at h3
      by_cases hb : l[i] = 32
      · rw [if_pos hb] at h3
        rw [hb, show (((32 : UInt8).toNat : Nat) : Int) = 32 from rfl] at hat
        simp only [go_sem, seval, B_size, q, hat, B_ext, hwi, Int.toNat_natCast]
        (with_reducible and_intros)<;>first|exact .dq|omega|skip
        refine RoundK.step (i + 1, out ++ [(l.drop f).take (i - f)]) hi ?_ ?_
        · exact ⟨by omega, by simp; omega, fun h => by simpa using h3, fun h => by omega⟩
        simp only [go_sem, seval, txtsB_app, Int.toNat_natCast]
      · rw [if_neg hb] at h3
        have hq : (((l[i].toNat : Nat) : Int) == 32) = false := by
          rw [beq_eq_false_iff_ne]; intro h; apply hb
          apply UInt8.toNat_inj.1; show l[i].toNat = 32; omega
        simp only [go_sem, seval, B_size, q, hat, hq, hwi, Int.toNat_natCast]
        (with_reducible and_intros)<;>first|exact .dq|omega|skip
        refine RoundK.step (f, out) hi ?_ ?_
        · exact ⟨by show f ≤ i + 1; omega, by show out.length ≤ i + 1; omega, fun _ => h3, fun h => by omega⟩
        simp only [go_sem, seval]
  · intro s hdx hI
    obtain ⟨f, out⟩ := s
    obtain ⟨_, h2, _, h4⟩ := hI
    have h4 := h4 rfl
    simp only at h4 h2
    subst h4
    have hdi : decide (((l.length + 1 : Nat) : Int) ≤ (l.length : Int)) = false := decide_eq_false (by omega)
    simp only [go_sem, seval, B_size, hdi]
theorem words_spec (l : List UInt8) (hl : l.length ≤ 2 ^ 40) : Abs.Spec Tryd.prog 22 [] [.str (B l)] [] (.sl 1 (txtsB (spl l []))) := by
  refine Spec.frozen (words_own l hl) [0] rfl ?_
  intro r
  rcases r with _ | r <;> rfl
theorem txtsB_strs (l : List (List UInt8)) : txtsB l = strs (l.map B) := by simp [txtsB, strs]
theorem join_spec (xs : List (List UInt8)) (sep : List UInt8) (hne : xs ≠ []) (hl : xs.length ≤ 1000000) (hz : (Go.Lib.join xs sep).length ≤ 1000000000) : Abs.Spec Tryd.prog 28 [] [.sl 1 (txtsB xs), .str (B sep)] [] (.str (B (Go.Lib.join xs sep))) := by
  rw [txtsB_strs]
  refine Spec.of_calls ⟨_, Tryd.func28, rfl, rfl⟩ ?_ (by simp [D.names])
  intro w l0 S0 vs _ hlev hsz hr
  obtain ⟨v0, v1, rfl⟩ : ∃ v0 v1, vs = #[v0, v1] := by
    obtain ⟨l⟩ := vs
    match l, hsz with
    | [a, b], _ => exact ⟨a, b, rfl⟩
  obtain ⟨bk, o, c, rfl, hc, hlt, hcell⟩ := strs_open (hr 0 v0 _ rfl rfl) (by simpa using hne)
  obtain rfl := (hr 1 v1 _ rfl rfl).str_inv
  have e : (xs.map B).map (·.data.toList) = xs := by rw [List.map_map]; exact List.map_id' xs
  have e2 : (B sep).data.toList = sep := rfl
  have hJ := Tryd.strings_Join bk o c (xs.map B) (B sep) w hcell hlt (by simp; omega) hc (by rw [e, e2]; omega)
  rw [e, e2] at hJ
  refine hJ.mono ?_
  rintro e w' ⟨rfl, hb⟩
  exact ⟨_, rfl, hb, .str _⟩
theorem join_joinW : ∀ (xs : List (List UInt8)), Go.Lib.join xs [32] = joinW xs
  | [] => rfl
  | x :: r => by
    rw [Go.Lib.join_cons, Go.Lib.joinTail, joinW, List.flatMap]
    rfl
/-- words, as the library cuts them -/
theorem split_spl : ∀ (l cur : List UInt8), ∃ h t, Go.Lib.splitK [32] 0 (Go.Lib.count l [32]) l = h :: t ∧ spl l cur = (cur ++ h) :: t
  | [], cur => ⟨[], [], by rw [Go.Lib.count_miss (by simp [Go.Lib.index])]; rfl, by simp [spl]⟩
  | b :: r, cur => by
    by_cases hb : b = 32
    · subst hb
      obtain ⟨h, t, e1, e2⟩ := split_spl r []
      refine ⟨[], h :: t, ?_, ?_⟩
      · rw [Go.Lib.count_cons_eq, Nat.add_comm 1]
        have hix : Go.Lib.index (32 :: r) [32] = 0 := by rw [Go.Lib.index]; simp [List.isPrefixOf]
        simp only [Go.Lib.splitK, hix]
        simp [e1]
      · simp only [spl, if_true, e2]; simp
    · obtain ⟨h, t, e1, e2⟩ := split_spl r (cur ++ [b])
      have hp : ([32] : List UInt8).isPrefixOf (b :: r) = false := by simp [List.isPrefixOf, Ne.symm hb]
      have hix : Go.Lib.index (b :: r) [32] = if Go.Lib.index r [32] == -1 then -1 else Go.Lib.index r [32] + 1 := by rw [Go.Lib.index, hp]; simp
      rw [Go.Lib.count_cons_ne b 32 r hb]
      cases hk : Go.Lib.count r [32] with
      | zero =>
        rw [hk] at e1
        simp only [Go.Lib.splitK, List.cons.injEq] at e1 ⊢
        obtain ⟨rfl, rfl⟩ := e1
        exact ⟨b :: r, [], ⟨rfl, rfl⟩, by simp only [spl, if_neg hb]; rw [e2]; simp⟩
      | succ k =>
        have hm : Go.Lib.index r [32] ≠ -1 := fun e => by rw [Go.Lib.count_miss e] at hk; cases hk
        have hge := Go.Lib.index_ge r [32]
        obtain ⟨j, hj⟩ : ∃ j : Nat, Go.Lib.index r [32] = j := ⟨(Go.Lib.index r [32]).toNat, by omega⟩
        have hix' : Go.Lib.index (b :: r) [32] = ((j + 1 : Nat) : Int) := by rw [hix, if_neg (fun e => hm (beq_iff_eq.1 e)), hj]; omega
        rw [hk] at e1
        have n1 : ¬ ((j : Int) == -1) = true := fun e => by have := beq_iff_eq.1 e; omega
        have n2 : ¬ (((j + 1 : Nat) : Int) == -1) = true := fun e => by have := beq_iff_eq.1 e; omega
        simp only [Go.Lib.splitK, hj, if_neg n1] at e1
        simp only [Go.Lib.splitK, hix', if_neg n2]
        obtain ⟨f1, f2⟩ := List.cons.inj e1
        refine ⟨b :: h, t, ?_, ?_⟩
        · rw [← f1, ← f2]
          simp
        · simp only [spl, if_neg hb]; rw [e2]; simp
theorem split_eq (l : List UInt8) : (Go.Lib.splitB (B [32]) 0 (Go.Lib.countB (B l) (B [32])) (B l)) = (spl l []).map B := by
  have h := Go.Lib.splitB_data (B [32]) 0 (Go.Lib.countB (B l) (B [32])) (B l)
  obtain ⟨x, t, e1, e2⟩ := split_spl l []
  have e3 : (B l).data.toList = l := rfl
  have e4 : (B [32]).data.toList = [32] := rfl
  have e5 : Go.Lib.countB (B l) (B [32]) = Go.Lib.count l [32] := rfl
  rw [e3, e4, e5, e1] at h
  rw [e2, List.nil_append, ← h, List.map_map, e5]
  exact (List.map_id'' (fun x => rfl) _).symm
theorem rep_new {w : World} {l0 : Nat → Option Nat} {S0 : Nat → Option Value} (hl : ∀ b m, l0 b = some m → b < w.heap.size) (xs : List ByteArray) (t : TypeId) (n : Nat) (hn : n = xs.length) : RepV (cx (w.alloc (.cells (xs.map Value.string).toArray t)) l0 S0) (.slice (some ⟨w.heap.size, 0, none⟩) n n) (.sl 1 (strs xs)) := by
  subst hn
  have hlev : l0 w.heap.size = none := by
    cases h : l0 w.heap.size with
    | none => rfl
    | some m => exact absurd (hl _ _ h) (Nat.lt_irrefl _)
  have hlen : xs.length = (strs xs).length := by simp [strs]
  have := RepV.sl (C := cx (w.alloc (.cells (xs.map Value.string).toArray t)) l0 S0) 1 ⟨w.heap.size, 0, none⟩ xs.length (strs xs) (fun i _ => .string (xs.getD i ⟨#[]⟩)) (by rw [hlen]; exact Nat.le_refl _) (by
      intro r hr
      obtain ⟨x, _, rfl⟩ := List.mem_map.1 hr
      rfl) (by
      intro r hr d hd
      obtain ⟨x, _, rfl⟩ := List.mem_map.1 hr
      rw [List.mem_singleton.1 hd]
      exact ⟨trivial, rfl⟩) (by
      intro i j r d hi hj
      simp only [strs, List.getElem?_map] at hi
      cases hx : xs[i]? with
      | none => rw [hx] at hi; cases hi
      | some x =>
        rw [hx] at hi
        obtain rfl := Option.some.inj hi
        have hj0 : j = 0 := by
          cases j with
          | zero => rfl
          | succ j => simp at hj
        subst hj0
        have ha : (⟨w.heap.size, 0, none⟩ : Addr).add (i * 1 + 0) = ⟨w.heap.size, i, none⟩ := by
          unfold Addr.add
          split
          · rename_i h0
            have : i = 0 := by omega
            subst this; rfl
          · simp
        rw [ha]
        show vis _ _ _ = _
        unfold vis
        simp only [hlev]
        rw [World.cell?_alloc_new]
        simp [hx, List.getD]) (by
      intro i j r d hi hj
      simp only [strs, List.getElem?_map] at hi
      cases hx : xs[i]? with
      | none => rw [hx] at hi; cases hi
      | some x =>
        rw [hx] at hi
        obtain rfl := Option.some.inj hi
        cases j with
        | zero =>
          obtain rfl := Option.some.inj hj
          have : xs.getD i ⟨#[]⟩ = x := by simp [List.getD, hx]
          rw [this]
          exact .str _
        | succ j => simp at hj)
  rw [← hlen] at this
  exact this
theorem split_spec (l : List UInt8) (hl : l.length ≤ 1000000000) : Abs.Spec Tryd.prog 18 [] [.str (B l), .str (B [32])] [] (.sl 1 (txtsB (spl l []))) := by
  rw [txtsB_strs]
  refine Spec.of_calls ⟨_, Tryd.func18, rfl, rfl⟩ ?_ (by simp [D.names])
  intro w l0 S0 vs hT hlev hsz hr
  obtain ⟨v0, v1, rfl⟩ : ∃ v0 v1, vs = #[v0, v1] := by
    obtain ⟨l⟩ := vs
    match l, hsz with
    | [a, b], _ => exact ⟨a, b, rfl⟩
  obtain rfl := (hr 0 v0 _ rfl rfl).str_inv
  obtain rfl := (hr 1 v1 _ rfl rfl).str_inv
  obtain ⟨E, x, c, hh, m, hm⟩ := hT (1, .int1 .i64) (by unfold tabs; simp only [List.mem_cons, true_or, or_true])
  have hmc : w.cell? ⟨1, 0, none⟩ = some (.int .i64 m) := by
    have hh : w.heap[1]? = some (.cells c E x) := hh
    simp only [World.cell?, hh]
    simpa using hm
  refine (Tryd.strings_Split (B l) (B [32]) m w (by rw [B_size]; omega) hmc (by decide)).mono ?_
  rintro e w' ⟨rfl, rfl⟩
  rw [split_eq]
  refine ⟨_, rfl, ?_, ?_⟩
  · exact (Go.RowKit.Below.refl _ _).alloc (Nat.le_refl _) _
  · refine rep_new hlev ((spl l []).map B) _ _ ?_
    have := Go.Lib.splitB_all (B [32]) (by decide) 0 _ (B l) rfl
    rw [split_eq] at this
    exact this.symm
theorem atoi_ok (l : List UInt8) (hl : l.length ≤ 1000000000) (n : Int) (h : atoiAll l = .ok n) : Abs.Spec Tryd.prog 36 [] [.str (B l)] [] (.tup [.int .i64 n, .nilif]) := by
  refine Spec.of_calls ⟨_, Tryd.func36, rfl, rfl⟩ ?_ (by simp [D.names, D.namesL])
  intro w l0 S0 vs _ hlev hsz hr
  obtain ⟨v0, rfl⟩ : ∃ v0, vs = #[v0] := by
    obtain ⟨l⟩ := vs
    match l, hsz with
    | [a], _ => exact ⟨a, rfl⟩
  obtain rfl := (hr 0 v0 _ rfl rfl).str_inv
  refine (Tryd.strconv_Atoi_ok (B l) (by rw [B_size]; omega) n h w).mono ?_
  rintro e w' ⟨rfl, hw⟩
  refine ⟨_, rfl, ?_, .tup _ _ rfl ?_⟩
  · rcases hw with rfl | ⟨t, rfl⟩
    · exact Go.RowKit.Below.refl _ _
    · exact Go.Lib.bytesWorld_below ..
  · intro i v d hv hd
    match i, hv, hd with
    | 0, hv, hd => simp at hv hd; subst hv; subst hd; exact .int _ _
    | 1, hv, hd => simp at hv hd; subst hv; subst hd; exact .nilif
    | i + 2, hv, hd => simp at hv
theorem atoi_bad (l : List UInt8) (hl : l.length ≤ 1000000000) (h : ∀ n, atoiAll l ≠ .ok n) : ∃ n : Int, Abs.Spec Tryd.prog 36 [] [.str (B l)] [] (.tup [.int .i64 n, .someif]) := by
  have fin : ∀ (n : Int) (t : TypeId) (p : Value), ∀ (C : Cx), RepV C (.tuple #[.int .i64 n, .iface t p]) (.tup [.int .i64 n, .someif]) := fun n t p C => by
    refine .tup _ _ rfl ?_
    intro i v d hv hd
    match i, hv, hd with
    | 0, hv, hd => simp at hv hd; subst hv; subst hd; exact .int _ _
    | 1, hv, hd => simp at hv hd; subst hv; subst hd; exact .someif _ _
    | i + 2, hv, hd => simp at hv
  rcases q : atoiAll l with n | _ | _
  · exact absurd q (h n)
  · refine ⟨0, Spec.of_calls ⟨_, Tryd.func36, rfl, rfl⟩ ?_ (by simp [D.names, D.namesL])⟩
    intro w l0 S0 vs hT hlev hsz hr
    obtain ⟨v0, rfl⟩ : ∃ v0, vs = #[v0] := by
      obtain ⟨l⟩ := vs
      match l, hsz with
      | [a], _ => exact ⟨a, rfl⟩
    obtain rfl := (hr 0 v0 _ rfl rfl).str_inv
    obtain ⟨E, x, c, hh, v, hv, hev⟩ := hT (2, .err1) (by unfold tabs; simp only [List.mem_cons, true_or, or_true])
    have hmc : w.cell? ⟨2, 0, none⟩ = some v := by
      have hh : w.heap[2]? = some (.cells c E x) := hh
      simp only [World.cell?, hh]
      simpa using hv
    refine (Any.strconv_Atoi_syntax Tryd.laysC172 (B l) (by rw [B_size]; omega) q v w hmc hev).mono ?_
    rintro e w' ⟨N, rfl, _, _, hb⟩
    exact ⟨_, rfl, hb, fin _ _ _ _⟩
  · refine ⟨Go.Lib.atoiSat l, Spec.of_calls ⟨_, Tryd.func36, rfl, rfl⟩ ?_ (by simp [D.names, D.namesL])⟩
    intro w l0 S0 vs hT hlev hsz hr
    obtain ⟨v0, rfl⟩ : ∃ v0, vs = #[v0] := by
      obtain ⟨l⟩ := vs
      match l, hsz with
      | [a], _ => exact ⟨a, rfl⟩
    obtain rfl := (hr 0 v0 _ rfl rfl).str_inv
    obtain ⟨E, x, c, hh, v, hv, hev⟩ := hT (3, .err1) (by unfold tabs; simp only [List.mem_cons, true_or, or_true])
    have hmc : w.cell? ⟨3, 0, none⟩ = some v := by
      have hh : w.heap[3]? = some (.cells c E x) := hh
      simp only [World.cell?, hh]
      simpa using hv
    refine (Tryd.strconv_Atoi_range (B l) (by rw [B_size]; omega) q v w hmc hev).mono ?_
    rintro e w' ⟨N, rfl, _, _, hb⟩
    exact ⟨_, rfl, hb, fin _ _ _ _⟩
theorem numOf_len {w : List UInt8} {n : Int} (h : numOf w = some n) : w.length ≤ 20 := by
  obtain ⟨h1, h2, h3⟩ := numOf_some h
  rw [h1]; exact itoa_len20 n h2 h3
def numD (w : List UInt8) : D := .tup [.int .i64 ((numOf w).getD 0), .bool (numOf w).isSome]
theorem number_spec (w : List UInt8) (hl : w.length ≤ 1000000000) : Abs.Spec Tryd.prog 21 [] [.str (B w)] [] (numD w) := by
  unfold numD
  cases q : atoiAll w with
  | ok n =>
    have h1 := atoi_ok w hl n q
    have h2 := itoa_spec n (atoi_rng q)
    have e : numOf w = if itoa n = w then some n else none := by unfold numOf; rw [q]
    rw [e]
    refine sgo 20 1 [.tmp 2, .tmp 3] mixed Tryd.func21 ?_
    simp only [go_sem, seval]
    (with_reducible and_intros)<;>first|exact .dq|omega|skip
    refine CallN.pure h1 ?_
    simp only [go_sem, seval]
    (with_reducible and_intros)<;>first|exact .dq|omega|skip
    · kernel_rfl
    refine CallN.pure h2 ?_
    by_cases hw : itoa n = w
    · have hb : ((B (itoa n)).toList == (B w).toList) = true := by rw [B_lst, B_lst, beq_iff_eq]; exact hw
      rw [if_pos hw]
      simp only [go_sem, seval, bne, hb]
    · have hb : ((B (itoa n)).toList == (B w).toList) = false := by rw [B_lst, B_lst, beq_eq_false_iff_ne]; exact hw
      rw [if_neg hw]
      simp only [go_sem, seval, bne, hb]
  | _ =>
    obtain ⟨n, h1⟩ := atoi_bad w hl (by intro n; rw [q]; intro h; cases h)
    have e : numOf w = none := by unfold numOf; rw [q]
    rw [e]
    refine sgo 20 1 [.tmp 2, .tmp 3] mixed Tryd.func21 ?_
    simp only [go_sem, seval]
    (with_reducible and_intros)<;>first|exact .dq|omega|skip
    refine CallN.pure h1 ?_
    simp only [go_sem, seval]
    kernel_rfl
end Go.Proofs.YtdklpddmplflgaaDoor
