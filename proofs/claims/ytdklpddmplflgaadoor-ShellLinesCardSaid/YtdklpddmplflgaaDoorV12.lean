/- What is told of a reply; no theorem of a claim. -/
import Derived.Test.YtdklpddmplflgaaDoorV11
set_option linter.unusedSimpArgs false
set_option linter.unusedVariables false
namespace Go.Proofs.YtdklpddmplflgaaDoor
open Go.Abs
open Go.Lib (itoa)
@[go_sem] theorem slT_arr {e : Env} (n z : Nat) (a : Bool) (r o : Nat) (k : IntKind) (lo : Int) : slT e (.arr n z a) (.addr r o) (.int k lo) none = .bsub r (o + lo.toNat * z) z (n - lo.toNat) (n - lo.toNat) := by
  simp [slT, slN, slNd, slD2, slD]
@[go_sem] theorem slTOk_arr {e : Env} (n z : Nat) (a : Bool) (r o : Nat) (k : IntKind) (lo : Int) : slTOk e (.arr n z a) (.addr r o) (.int k lo) none = (0 ≤ lo ∧ lo ≤ n) := by
  simp [slTOk, slC, slN, slNd, SlK]
@[go_sem] theorem permB_int5 (k : IntKind) (m : Int) : permB (.int k m) = true := rfl
attribute [go_sem] List.all_cons List.all_nil Bool.and_self
theorem itoas_step (ns : List Int) {i : Nat} (hi : i < ns.length) : (ns.take (i + 1)).map itoa = (ns.take i).map itoa ++ [itoa ns[i]] := by
  rw [List.take_succ_eq_append_getElem hi, List.map_append]
  rfl
set_option maxRecDepth 8000 in
theorem sayM_first (w : List UInt8) (ns : List Int) (hn : ns.length ≤ 100) (h : ∀ n ∈ ns, I64 n) : Abs.Spec Tryd.prog 29 [.box [.nil]] [.addr 0 0, .str (B w), .sl 1 (ints ns)] [.box [.ref 1], .own 1 (txtsB (w :: ns.map itoa))] (.tup []) := by
  have e0 : [[D.str (B w)]] = txtsB (w :: (ns.take 0).map itoa) := rfl
  refine sgo 32 3 [] mixed Tryd.func29 ?_
  simp -implicitDefEqProofs only [go_sem, seval, ints_len]
  (with_reducible and_intros)<;>first|exact .dq|omega|skip
  rw [e0]
  refine LoopK.walk (S := Unit) ns.length [0, 16, 17] [] (fun i _ => [(18, .int .i64 i)]) (fun i _ => [(0, .box [.ref 480]), (480, .own 1 (txtsB (w :: (ns.take i).map itoa)))]) (fun _ _ => True) () trivial ?_ ?_ ?_
  · simp -implicitDefEqProofs only [go_sem, seval] <;> simp
  · intro i _ hi hdi hwi _
    have hm := ints_at ns hi
    have hN := h _ (List.getElem_mem hi)
    have hI := itoa_spec ns[i] hN
    have hst : txtsB (w :: (ns.take i).map itoa) ++ [[.str (B (itoa ns[i]))]] = txtsB (w :: (ns.take (i + 1)).map itoa) := by
      rw [← txtsB_app, itoas_step ns hi]; rfl
    have hl : (w :: (ns.take i).map itoa).length ≤ 101 := by simp; omega
    obtain ⟨W, hW⟩ : ∃ W, W = w :: (ns.take i).map itoa := ⟨_, rfl⟩
    rw [← hW] at hst hl ⊢
    simp -implicitDefEqProofs only [go_sem, seval, ints_len, hdi, hm]
    (with_reducible and_intros)<;>first|exact .dq|omega|skip
    refine CallN.pure hI ?_
    simp -implicitDefEqProofs only [go_sem, seval, txtsB_len, hst, hwi]
    (with_reducible and_intros)<;>first|exact .dq|omega|skip
    refine RoundK.step () hi trivial ?_
    simp -implicitDefEqProofs only [go_sem, seval]
  · intro _ hdx _
    simp -implicitDefEqProofs only [go_sem, seval, ints_len, hdx, List.take_length]
set_option maxRecDepth 8000 in
theorem sayM_spec (ws : List (List UInt8)) (w : List UInt8) (ns : List Int) (hws : ws.length ≤ 100000) (hn : ns.length ≤ 100) (h : ∀ n ∈ ns, I64 n) : Abs.Spec Tryd.prog 29 [.box [.ref 1], .own 1 (txtsB ws)] [.addr 0 0, .str (B w), .sl 1 (ints ns)] [.box [.ref 2], .undef, .own 1 (txtsB (ws ++ w :: ns.map itoa))] (.tup []) := by
  have e0 : txtsB ws ++ [[D.str (B w)]] = txtsB (ws ++ w :: (ns.take 0).map itoa) := by rw [← txtsB_app]; rfl
  refine sgo 32 3 [] mixed Tryd.func29 ?_
  simp -implicitDefEqProofs only [go_sem, seval, ints_len, txtsB_len]
  (with_reducible and_intros)<;>first|exact .dq|omega|skip
  rw [e0]
  refine LoopK.walk (S := Unit) ns.length [0, 16, 17] [] (fun i _ => [(18, .int .i64 i)]) (fun i _ => [(0, .box [.ref 480]), (480, .own 1 (txtsB (ws ++ w :: (ns.take i).map itoa)))]) (fun _ _ => True) () trivial ?_ ?_ ?_
  · simp -implicitDefEqProofs only [go_sem, seval] <;> simp
  · intro i _ hi hdi hwi _
    have hm := ints_at ns hi
    have hN := h _ (List.getElem_mem hi)
    have hI := itoa_spec ns[i] hN
    have hst : txtsB (ws ++ w :: (ns.take i).map itoa) ++ [[.str (B (itoa ns[i]))]] = txtsB (ws ++ w :: (ns.take (i + 1)).map itoa) := by
      rw [← txtsB_app, itoas_step ns hi]; simp
    have hl : (ws ++ w :: (ns.take i).map itoa).length ≤ 100101 := by simp; omega
    obtain ⟨W, hW⟩ : ∃ W, W = ws ++ w :: (ns.take i).map itoa := ⟨_, rfl⟩
    rw [← hW] at hst hl ⊢
    simp -implicitDefEqProofs only [go_sem, seval, ints_len, hdi, hm]
    (with_reducible and_intros)<;>first|exact .dq|omega|skip
    refine CallN.pure hI ?_
    simp -implicitDefEqProofs only [go_sem, seval, txtsB_len, hst, hwi]
    (with_reducible and_intros)<;>first|exact .dq|omega|skip
    refine RoundK.step () hi trivial ?_
    simp -implicitDefEqProofs only [go_sem, seval]
  · intro _ hdx _
    simp -implicitDefEqProofs only [go_sem, seval, ints_len, hdx, List.take_length]
abbrev tCode : List UInt8 := [99, 111, 100, 101]
abbrev tNo : List UInt8 := [110, 111]
abbrev tAmount : List UInt8 := [97, 109, 111, 117, 110, 116]
abbrev tDue : List UInt8 := [100, 117, 101]
abbrev tFall : List UInt8 := [102, 97, 108, 108]
abbrev tRest : List UInt8 := [114, 101, 115, 116]
def headW (r : ReplyV) : List (List UInt8) := tCode :: itoa r.code :: ((if r.no = 0 then [] else [tNo, itoa r.no]) ++ if r.amt = 0 then [] else [tAmount, itoa r.amt])
def dueW (d : DueV) : List (List UInt8) := [tDue, itoa d.who, itoa d.cur, itoa d.amt]
def fallW (f : FallV) : List (List UInt8) := [tFall, itoa f.cur, itoa f.loss, itoa f.c0, itoa f.c1, itoa f.c2, itoa f.c3, itoa f.c4, tRest, itoa f.rest]
/-- the words of a reply -/
def tellW (r : ReplyV) : List (List UInt8) := headW r ++ r.dues.flatMap dueW ++ r.falls.flatMap fallW
theorem headW_len (r : ReplyV) : (headW r).length ≤ 6 := by
  unfold headW
  split <;> split <;> simp
theorem dues_len (l : List DueV) : (l.flatMap dueW).length = 4 * l.length := by
  induction l with
  | nil => rfl
  | cons d r ih => rw [List.flatMap_cons, List.length_append, ih]; simp [dueW]; omega
theorem falls_len (l : List FallV) : (l.flatMap fallW).length = 10 * l.length := by
  induction l with
  | nil => rfl
  | cons d r ih => rw [List.flatMap_cons, List.length_append, ih]; simp [fallW]; omega
theorem tellW_len (r : ReplyV) : (tellW r).length ≤ 6 + 4 * r.dues.length + 10 * r.falls.length := by
  have := headW_len r
  simp only [tellW, List.length_append, dues_len, falls_len]; omega
theorem headW_short {r : ReplyV} (h : r.rngs) : ∀ w ∈ headW r, w.length ≤ 21 := by
  obtain ⟨h1, h2, h3, _, _⟩ := h
  have a1 := itoa_len _ h1
  have a2 := itoa_len _ h2
  have a3 := itoa_len _ h3
  intro w hw
  unfold headW at hw
  split at hw <;> split at hw <;> simp at hw <;> (rcases hw with rfl | rfl | rfl | rfl | rfl | rfl <;> first | assumption | decide)
theorem dueW_short {d : DueV} (h : d.rng) : ∀ w ∈ dueW d, w.length ≤ 21 := by
  obtain ⟨h1, h2, h3⟩ := h
  have a1 := itoa_len _ h1
  have a2 := itoa_len _ h2
  have a3 := itoa_len _ h3
  intro w hw
  simp only [dueW, List.mem_cons, List.not_mem_nil, or_false] at hw
  rcases hw with rfl | rfl | rfl | rfl <;> first | assumption | decide
theorem fallW_short {f : FallV} (h : f.rng) : ∀ w ∈ fallW f, w.length ≤ 21 := by
  obtain ⟨h1, h2, h3, h4, h5, h6, h7, h8⟩ := h
  have a1 := itoa_len _ h1
  have a2 := itoa_len _ h2
  have a3 := itoa_len _ h3
  have a4 := itoa_len _ h4
  have a5 := itoa_len _ h5
  have a6 := itoa_len _ h6
  have a7 := itoa_len _ h7
  have a8 := itoa_len _ h8
  intro w hw
  simp only [fallW, List.mem_cons, List.not_mem_nil, or_false] at hw
  rcases hw with rfl | rfl | rfl | rfl | rfl | rfl | rfl | rfl | rfl | rfl <;> first | assumption | decide
theorem tellW_short {r : ReplyV} (h : r.rngs) : ∀ w ∈ tellW r, w.length ≤ 21 := by
  intro w hw
  simp only [tellW, List.mem_append, List.mem_flatMap] at hw
  rcases hw with (hw | ⟨d, hd, hw⟩) | ⟨f, hf, hw⟩
  · exact headW_short h w hw
  · exact dueW_short (h.2.2.2.1 d hd) w hw
  · exact fallW_short (h.2.2.2.2 f hf) w hw
theorem joinW_len : ∀ (ws : List (List UInt8)), (∀ w ∈ ws, w.length ≤ 21) → (joinW ws).length ≤ 22 * ws.length
  | [], _ => by simp [joinW]
  | w :: ws, h => by
    have h1 := h w (by simp)
    have : ∀ l : List (List UInt8), (∀ w ∈ l, w.length ≤ 21) → (l.flatMap fun x => 32 :: x).length ≤ 22 * l.length := by
      intro l
      induction l with
      | nil => intro _; simp
      | cons a b ih =>
        intro hl
        have := hl a (by simp)
        have := ih fun x hx => hl x (by simp [hx])
        rw [List.flatMap_cons, List.length_append, List.length_cons, List.length_cons]; omega
    have := this ws fun x hx => h x (by simp [hx])
    simp only [joinW, List.length_append, List.length_cons]; omega
theorem dues_step (l : List DueV) {j : Nat} (h : j < l.length) : (l.take (j + 1)).flatMap dueW = (l.take j).flatMap dueW ++ dueW l[j] := by
  rw [List.take_succ_eq_append_getElem h, List.flatMap_append]; simp
theorem falls_step (l : List FallV) {j : Nat} (h : j < l.length) : (l.take (j + 1)).flatMap fallW = (l.take j).flatMap fallW ++ fallW l[j] := by
  rw [List.take_succ_eq_append_getElem h, List.flatMap_append]; simp
set_option maxRecDepth 8000 in
set_option maxHeartbeats 4000000 in
theorem tell_spec (r : ReplyV) (hr : r.rngs) (h1 : r.dues.length ≤ 300) (h2 : r.falls.length ≤ 300) : Abs.Spec Tryd.prog 14 [] [.agg r.cells] [] (.str (B (joinW (tellW r)))) := by
  obtain ⟨hc, hno, ham, hds, hfs⟩ := hr
  have one : ∀ n, I64 n → ∀ m ∈ [n], I64 m := fun n h m hm => by rw [List.mem_singleton.1 hm]; exact h
  have hS1 := sayM_first tCode [r.code] (by simp) (one _ hc)
  simp only [ints, List.map_cons, List.map_nil] at hS1
  have hJ : Abs.Spec Tryd.prog 28 [] [.sl 1 (txtsB (tellW r)), .str ⟨#[32]⟩] [] (.str (B (joinW (tellW r)))) := by
    have hl := tellW_len r
    have hb := joinW_len (tellW r) (tellW_short ⟨hc, hno, ham, hds, hfs⟩)
    have := join_spec (tellW r) [32] (by simp [tellW, headW]) (by omega) (by rw [join_joinW]; omega)
    rw [join_joinW] at this
    exact this
  have hhl := headW_len r
  obtain ⟨J, hJd⟩ : ∃ J, J = joinW (tellW r) := ⟨_, rfl⟩
  rw [← hJd] at hJ ⊢
  simp only [ReplyV.cells]
  refine sgo 65 1 [.tmp 2] mixed Tryd.func14 ?_
  simp -implicitDefEqProofs only [go_sem, seval, B_mk]
  (with_reducible and_intros)<;>first|exact .dq|omega|skip
  refine CallN.gen [176] [64] false (by simp) ?_
  simp -implicitDefEqProofs only [go_sem, seval]
  refine CallG.intro hS1 ?_
  simp -implicitDefEqProofs only [go_sem, seval]
  (with_reducible and_intros)<;>first|exact .dq|omega|skip
  have hD : ∀ (ws : List (List UInt8)) (d : DueV), ws.length ≤ 100000 → d.rng → Abs.Spec Tryd.prog 29 [.box [.ref 1], .own 1 (txtsB ws)] [.addr 0 0, .str (B tDue), .sl 1 [[.int .i64 d.who], [.int .i64 d.cur], [.int .i64 d.amt]]] [.box [.ref 2], .undef, .own 1 (txtsB (ws ++ dueW d))] (.tup []) := by
    intro ws d hw hd
    exact sayM_spec ws tDue [d.who, d.cur, d.amt] hw (by simp) (by
      intro n hn
      simp only [List.mem_cons, List.not_mem_nil, or_false] at hn
      rcases hn with rfl | rfl | rfl
      · exact hd.1
      · exact hd.2.1
      · exact hd.2.2)
  have hF : ∀ (ws : List (List UInt8)) (f : FallV), ws.length ≤ 90000 → f.rng → Abs.Spec Tryd.prog 29 [.box [.ref 1], .own 1 (txtsB ws)] [.addr 0 0, .str (B tFall), .sl 1 [[.int .i64 f.cur], [.int .i64 f.loss], [.int .i64 f.c0], [.int .i64 f.c1], [.int .i64 f.c2], [.int .i64 f.c3], [.int .i64 f.c4]]] [.box [.ref 2], .undef, .own 1 (txtsB (ws ++ [tFall, itoa f.cur, itoa f.loss, itoa f.c0, itoa f.c1, itoa f.c2, itoa f.c3, itoa f.c4]))] (.tup []) := by
    intro ws f hw hf
    exact sayM_spec ws tFall [f.cur, f.loss, f.c0, f.c1, f.c2, f.c3, f.c4] (by omega) (by simp) (by
      intro n hn
      obtain ⟨g1, g2, g3, g4, g5, g6, g7, g8⟩ := hf
      simp only [List.mem_cons, List.not_mem_nil, or_false] at hn
      rcases hn with rfl | rfl | rfl | rfl | rfl | rfl | rfl <;> assumption)
  have hR : ∀ (ws : List (List UInt8)) (f : FallV), ws.length ≤ 90000 → f.rng → Abs.Spec Tryd.prog 29 [.box [.ref 1], .own 1 (txtsB (ws ++ [tFall, itoa f.cur, itoa f.loss, itoa f.c0, itoa f.c1, itoa f.c2, itoa f.c3, itoa f.c4]))] [.addr 0 0, .str (B tRest), .sl 1 [[.int .i64 f.rest]]] [.box [.ref 2], .undef, .own 1 (txtsB (ws ++ fallW f))] (.tup []) := by
    intro ws f hw hf
    have := sayM_spec (ws ++ [tFall, itoa f.cur, itoa f.loss, itoa f.c0, itoa f.c1, itoa f.c2, itoa f.c3, itoa f.c4]) tRest [f.rest] (by simp; omega) (by simp) (one _ hf.2.2.2.2.2.2.2)
    rw [List.append_assoc] at this
    exact this
  by_cases q1 : r.no = 0
  · have b1 : (r.no == 0) = true := by simpa using q1
    simp -implicitDefEqProofs only [go_sem, seval, bne, b1, B_mk]
    (with_reducible and_intros)<;>first|exact .dq|omega|skip
    by_cases q2 : r.amt = 0
    · have b2 : (r.amt == 0) = true := by simpa using q2
      simp -implicitDefEqProofs only [go_sem, seval, bne, b2, B_mk]
      (with_reducible and_intros)<;>first|exact .dq|omega|skip
      have hH : [tCode, itoa r.code] = headW r := by unfold headW; rw [if_pos q1, if_pos q2]; rfl
      rw [hH]
      have e0 : headW r ++ (r.dues.take 0).flatMap dueW = headW r := by simp
      refine LoopK.walk (S := Unit) r.dues.length [1, 3, 27, 28] [32] (fun j _ => [(29, .int .i64 j)]) (fun j _ => [(64, .box [.ref 80]), (80, .own 1 (txtsB (headW r ++ (r.dues.take j).flatMap dueW)))]) (fun _ _ => True) () trivial ?_ ?_ ?_
      · rw [e0]
        simp -implicitDefEqProofs only [go_sem, seval] <;> simp
      · intro j _ hj hdj hwj _
        have hm := map_at (c := DueV.cells) r.dues hj
        have hdr := hds _ (List.getElem_mem hj)
        have hli : (j : Int) < (r.dues.length : Int) := by omega
        have hst := dues_step r.dues hj
        have hwl : (headW r ++ (r.dues.take j).flatMap dueW).length ≤ 2000 := by
          rw [List.length_append, dues_len, List.length_take]; omega
        obtain ⟨d, hd⟩ : ∃ d, d = r.dues[j] := ⟨_, rfl⟩
        rw [← hd] at hm hdr hst
        obtain ⟨W, hW⟩ : ∃ W, W = headW r ++ (r.dues.take j).flatMap dueW := ⟨_, rfl⟩
        have hst2 : headW r ++ (r.dues.take (j + 1)).flatMap dueW = W ++ dueW d := by rw [hst, hW, List.append_assoc]
        rw [← hW] at hwl ⊢
        have hDj := hD W d (by omega) hdr
        simp only [DueV.cells] at hm
        simp -implicitDefEqProofs only [go_sem, seval, List.length_map, hdj, hm, B_mk]
        (with_reducible and_intros)<;>first|exact .dq|omega|skip
        refine CallN.gen [640] [64, 80] false (by simp) ?_
        simp -implicitDefEqProofs only [go_sem, seval]
        refine CallG.intro hDj ?_
        simp -implicitDefEqProofs only [go_sem, seval, hwj]
        (with_reducible and_intros)<;>first|exact .dq|omega|skip
        refine RoundK.step () hj trivial ?_
        rw [hst2]
        simp -implicitDefEqProofs only [go_sem, seval]
      intro _ hdx _
      simp -implicitDefEqProofs only [go_sem, seval, hdx, List.take_length, List.length_map]
      (with_reducible and_intros)<;>first|exact .dq|omega|skip
      obtain ⟨V, hV⟩ : ∃ V, V = headW r ++ r.dues.flatMap dueW := ⟨_, rfl⟩
      have hVl : V.length ≤ 2000 := by rw [hV, List.length_append, dues_len]; omega
      have hVT : tellW r = V ++ r.falls.flatMap fallW := by rw [hV]; rfl
      rw [← hV]
      refine LoopK.walk (S := Unit) r.falls.length [3, 43, 44] [32] (fun j _ => [(45, .int .i64 j)]) (fun j _ => [(64, .box [.ref 80]), (80, .own 1 (txtsB (V ++ (r.falls.take j).flatMap fallW)))]) (fun _ _ => True) () trivial ?_ ?_ ?_
      · rw [show V ++ (r.falls.take 0).flatMap fallW = V by simp]
        simp -implicitDefEqProofs only [go_sem, seval] <;> simp
      · intro j _ hj hdj hwj _
        have hm := map_at (c := FallV.cells) r.falls hj
        have hfr := hfs _ (List.getElem_mem hj)
        have hli : (j : Int) < (r.falls.length : Int) := by omega
        have hst := falls_step r.falls hj
        have hwl : (V ++ (r.falls.take j).flatMap fallW).length ≤ 6000 := by
          rw [List.length_append, falls_len, List.length_take]; omega
        obtain ⟨f, hf⟩ : ∃ f, f = r.falls[j] := ⟨_, rfl⟩
        rw [← hf] at hm hfr hst
        obtain ⟨W, hW⟩ : ∃ W, W = V ++ (r.falls.take j).flatMap fallW := ⟨_, rfl⟩
        have hst2 : V ++ (r.falls.take (j + 1)).flatMap fallW = W ++ fallW f := by rw [hst, hW, List.append_assoc]
        rw [← hW] at hwl ⊢
        have hFj := hF W f (by omega) hfr
        have hRj := hR W f (by omega) hfr
        simp only [FallV.cells] at hm
        simp -implicitDefEqProofs only [go_sem, seval, List.length_map, hdj, hm, B_mk]
        (with_reducible and_intros)<;>first|exact .dq|omega|skip
        refine CallN.gen [912] [64, 80] false (by simp) ?_
        simp -implicitDefEqProofs only [go_sem, seval]
        refine CallG.intro hFj ?_
        simp -implicitDefEqProofs only [go_sem, seval, B_mk]
        (with_reducible and_intros)<;>first|exact .dq|omega|skip
        refine CallN.gen [976] [64, 928] false (by simp) ?_
        simp -implicitDefEqProofs only [go_sem, seval]
        refine CallG.intro hRj ?_
        simp -implicitDefEqProofs only [go_sem, seval, hwj]
        (with_reducible and_intros)<;>first|exact .dq|omega|skip
        refine RoundK.step () hj trivial ?_
        rw [hst2]
        simp -implicitDefEqProofs only [go_sem, seval]
      intro _ hdx _
      rw [List.take_length, ← hVT]
      simp -implicitDefEqProofs only [go_sem, seval, hdx, List.length_map]
      (with_reducible and_intros)<;>first|exact .dq|omega|skip
      refine CallN.gen [80] [] false (by simp) ?_
      simp -implicitDefEqProofs only [go_sem, seval]
      refine CallG.intro hJ ?_
      simp -implicitDefEqProofs only [go_sem, seval]
    · have b2 : (r.amt == 0) = false := by simpa using q2
      simp -implicitDefEqProofs only [go_sem, seval, bne, b2, B_mk]
      (with_reducible and_intros)<;>first|exact .dq|omega|skip
      have hS3 := sayM_spec [tCode, itoa r.code] tAmount [r.amt] (by simp) (by simp) (one _ ham)
      rw [show [tCode, itoa r.code] ++ tAmount :: [r.amt].map itoa = [tCode, itoa r.code, tAmount, itoa r.amt] from rfl] at hS3
      simp only [ints, List.map_cons, List.map_nil] at hS3
      refine CallN.gen [400] [64, 192] false (by simp) ?_
      simp -implicitDefEqProofs only [go_sem, seval]
      refine CallG.intro hS3 ?_
      simp -implicitDefEqProofs only [go_sem, seval, List.length_map]
      (with_reducible and_intros)<;>first|exact .dq|omega|skip
      have hH : [tCode, itoa r.code, tAmount, itoa r.amt] = headW r := by unfold headW; rw [if_pos q1, if_neg q2]; rfl
      rw [hH]
      have e0 : headW r ++ (r.dues.take 0).flatMap dueW = headW r := by simp
      refine LoopK.walk (S := Unit) r.dues.length [1, 3, 27, 28] [32] (fun j _ => [(29, .int .i64 j)]) (fun j _ => [(64, .box [.ref 80]), (80, .own 1 (txtsB (headW r ++ (r.dues.take j).flatMap dueW)))]) (fun _ _ => True) () trivial ?_ ?_ ?_
      · rw [e0]
        simp -implicitDefEqProofs only [go_sem, seval] <;> simp
      · intro j _ hj hdj hwj _
        have hm := map_at (c := DueV.cells) r.dues hj
        have hdr := hds _ (List.getElem_mem hj)
        have hli : (j : Int) < (r.dues.length : Int) := by omega
        have hst := dues_step r.dues hj
        have hwl : (headW r ++ (r.dues.take j).flatMap dueW).length ≤ 2000 := by
          rw [List.length_append, dues_len, List.length_take]; omega
        obtain ⟨d, hd⟩ : ∃ d, d = r.dues[j] := ⟨_, rfl⟩
        rw [← hd] at hm hdr hst
        obtain ⟨W, hW⟩ : ∃ W, W = headW r ++ (r.dues.take j).flatMap dueW := ⟨_, rfl⟩
        have hst2 : headW r ++ (r.dues.take (j + 1)).flatMap dueW = W ++ dueW d := by rw [hst, hW, List.append_assoc]
        rw [← hW] at hwl ⊢
        have hDj := hD W d (by omega) hdr
        simp only [DueV.cells] at hm
        simp -implicitDefEqProofs only [go_sem, seval, List.length_map, hdj, hm, B_mk]
        (with_reducible and_intros)<;>first|exact .dq|omega|skip
        refine CallN.gen [640] [64, 80] false (by simp) ?_
        simp -implicitDefEqProofs only [go_sem, seval]
        refine CallG.intro hDj ?_
        simp -implicitDefEqProofs only [go_sem, seval, hwj]
        (with_reducible and_intros)<;>first|exact .dq|omega|skip
        refine RoundK.step () hj trivial ?_
        rw [hst2]
        simp -implicitDefEqProofs only [go_sem, seval]
      intro _ hdx _
      simp -implicitDefEqProofs only [go_sem, seval, hdx, List.take_length, List.length_map]
      (with_reducible and_intros)<;>first|exact .dq|omega|skip
      obtain ⟨V, hV⟩ : ∃ V, V = headW r ++ r.dues.flatMap dueW := ⟨_, rfl⟩
      have hVl : V.length ≤ 2000 := by rw [hV, List.length_append, dues_len]; omega
      have hVT : tellW r = V ++ r.falls.flatMap fallW := by rw [hV]; rfl
      rw [← hV]
      refine LoopK.walk (S := Unit) r.falls.length [3, 43, 44] [32] (fun j _ => [(45, .int .i64 j)]) (fun j _ => [(64, .box [.ref 80]), (80, .own 1 (txtsB (V ++ (r.falls.take j).flatMap fallW)))]) (fun _ _ => True) () trivial ?_ ?_ ?_
      · rw [show V ++ (r.falls.take 0).flatMap fallW = V by simp]
        simp -implicitDefEqProofs only [go_sem, seval] <;> simp
      · intro j _ hj hdj hwj _
        have hm := map_at (c := FallV.cells) r.falls hj
        have hfr := hfs _ (List.getElem_mem hj)
        have hli : (j : Int) < (r.falls.length : Int) := by omega
        have hst := falls_step r.falls hj
        have hwl : (V ++ (r.falls.take j).flatMap fallW).length ≤ 6000 := by
          rw [List.length_append, falls_len, List.length_take]; omega
        obtain ⟨f, hf⟩ : ∃ f, f = r.falls[j] := ⟨_, rfl⟩
        rw [← hf] at hm hfr hst
        obtain ⟨W, hW⟩ : ∃ W, W = V ++ (r.falls.take j).flatMap fallW := ⟨_, rfl⟩
        have hst2 : V ++ (r.falls.take (j + 1)).flatMap fallW = W ++ fallW f := by rw [hst, hW, List.append_assoc]
        rw [← hW] at hwl ⊢
        have hFj := hF W f (by omega) hfr
        have hRj := hR W f (by omega) hfr
        simp only [FallV.cells] at hm
        simp -implicitDefEqProofs only [go_sem, seval, List.length_map, hdj, hm, B_mk]
        (with_reducible and_intros)<;>first|exact .dq|omega|skip
        refine CallN.gen [912] [64, 80] false (by simp) ?_
        simp -implicitDefEqProofs only [go_sem, seval]
        refine CallG.intro hFj ?_
        simp -implicitDefEqProofs only [go_sem, seval, B_mk]
        (with_reducible and_intros)<;>first|exact .dq|omega|skip
        refine CallN.gen [976] [64, 928] false (by simp) ?_
        simp -implicitDefEqProofs only [go_sem, seval]
        refine CallG.intro hRj ?_
        simp -implicitDefEqProofs only [go_sem, seval, hwj]
        (with_reducible and_intros)<;>first|exact .dq|omega|skip
        refine RoundK.step () hj trivial ?_
        rw [hst2]
        simp -implicitDefEqProofs only [go_sem, seval]
      intro _ hdx _
      rw [List.take_length, ← hVT]
      simp -implicitDefEqProofs only [go_sem, seval, hdx, List.length_map]
      (with_reducible and_intros)<;>first|exact .dq|omega|skip
      refine CallN.gen [80] [] false (by simp) ?_
      simp -implicitDefEqProofs only [go_sem, seval]
      refine CallG.intro hJ ?_
      simp -implicitDefEqProofs only [go_sem, seval]
  · have b1 : (r.no == 0) = false := by simpa using q1
    simp -implicitDefEqProofs only [go_sem, seval, bne, b1, B_mk]
    (with_reducible and_intros)<;>first|exact .dq|omega|skip
    have hS2 := sayM_spec [tCode, itoa r.code] tNo [r.no] (by simp) (by simp) (one _ hno)
    rw [show [tCode, itoa r.code] ++ tNo :: [r.no].map itoa = [tCode, itoa r.code, tNo, itoa r.no] from rfl] at hS2
    simp only [ints, List.map_cons, List.map_nil] at hS2
    refine CallN.gen [288] [64, 192] false (by simp) ?_
    simp -implicitDefEqProofs only [go_sem, seval]
    refine CallG.intro hS2 ?_
    simp -implicitDefEqProofs only [go_sem, seval]
    (with_reducible and_intros)<;>first|exact .dq|omega|skip
    by_cases q2 : r.amt = 0
    · have b2 : (r.amt == 0) = true := by simpa using q2
      simp -implicitDefEqProofs only [go_sem, seval, bne, b2, B_mk]
      (with_reducible and_intros)<;>first|exact .dq|omega|skip
      have hH : [tCode, itoa r.code, tNo, itoa r.no] = headW r := by unfold headW; rw [if_neg q1, if_pos q2]; rfl
      rw [hH]
      have e0 : headW r ++ (r.dues.take 0).flatMap dueW = headW r := by simp
      refine LoopK.walk (S := Unit) r.dues.length [1, 3, 27, 28] [32] (fun j _ => [(29, .int .i64 j)]) (fun j _ => [(64, .box [.ref 80]), (80, .own 1 (txtsB (headW r ++ (r.dues.take j).flatMap dueW)))]) (fun _ _ => True) () trivial ?_ ?_ ?_
      · rw [e0]
        simp -implicitDefEqProofs only [go_sem, seval] <;> simp
      · intro j _ hj hdj hwj _
        have hm := map_at (c := DueV.cells) r.dues hj
        have hdr := hds _ (List.getElem_mem hj)
        have hli : (j : Int) < (r.dues.length : Int) := by omega
        have hst := dues_step r.dues hj
        have hwl : (headW r ++ (r.dues.take j).flatMap dueW).length ≤ 2000 := by
          rw [List.length_append, dues_len, List.length_take]; omega
        obtain ⟨d, hd⟩ : ∃ d, d = r.dues[j] := ⟨_, rfl⟩
        rw [← hd] at hm hdr hst
        obtain ⟨W, hW⟩ : ∃ W, W = headW r ++ (r.dues.take j).flatMap dueW := ⟨_, rfl⟩
        have hst2 : headW r ++ (r.dues.take (j + 1)).flatMap dueW = W ++ dueW d := by rw [hst, hW, List.append_assoc]
        rw [← hW] at hwl ⊢
        have hDj := hD W d (by omega) hdr
        simp only [DueV.cells] at hm
        simp -implicitDefEqProofs only [go_sem, seval, List.length_map, hdj, hm, B_mk]
        (with_reducible and_intros)<;>first|exact .dq|omega|skip
        refine CallN.gen [640] [64, 80] false (by simp) ?_
        simp -implicitDefEqProofs only [go_sem, seval]
        refine CallG.intro hDj ?_
        simp -implicitDefEqProofs only [go_sem, seval, hwj]
        (with_reducible and_intros)<;>first|exact .dq|omega|skip
        refine RoundK.step () hj trivial ?_
        rw [hst2]
        simp -implicitDefEqProofs only [go_sem, seval]
      intro _ hdx _
      simp -implicitDefEqProofs only [go_sem, seval, hdx, List.take_length, List.length_map]
      (with_reducible and_intros)<;>first|exact .dq|omega|skip
      obtain ⟨V, hV⟩ : ∃ V, V = headW r ++ r.dues.flatMap dueW := ⟨_, rfl⟩
      have hVl : V.length ≤ 2000 := by rw [hV, List.length_append, dues_len]; omega
      have hVT : tellW r = V ++ r.falls.flatMap fallW := by rw [hV]; rfl
      rw [← hV]
      refine LoopK.walk (S := Unit) r.falls.length [3, 43, 44] [32] (fun j _ => [(45, .int .i64 j)]) (fun j _ => [(64, .box [.ref 80]), (80, .own 1 (txtsB (V ++ (r.falls.take j).flatMap fallW)))]) (fun _ _ => True) () trivial ?_ ?_ ?_
      · rw [show V ++ (r.falls.take 0).flatMap fallW = V by simp]
        simp -implicitDefEqProofs only [go_sem, seval] <;> simp
      · intro j _ hj hdj hwj _
        have hm := map_at (c := FallV.cells) r.falls hj
        have hfr := hfs _ (List.getElem_mem hj)
        have hli : (j : Int) < (r.falls.length : Int) := by omega
        have hst := falls_step r.falls hj
        have hwl : (V ++ (r.falls.take j).flatMap fallW).length ≤ 6000 := by
          rw [List.length_append, falls_len, List.length_take]; omega
        obtain ⟨f, hf⟩ : ∃ f, f = r.falls[j] := ⟨_, rfl⟩
        rw [← hf] at hm hfr hst
        obtain ⟨W, hW⟩ : ∃ W, W = V ++ (r.falls.take j).flatMap fallW := ⟨_, rfl⟩
        have hst2 : V ++ (r.falls.take (j + 1)).flatMap fallW = W ++ fallW f := by rw [hst, hW, List.append_assoc]
        rw [← hW] at hwl ⊢
        have hFj := hF W f (by omega) hfr
        have hRj := hR W f (by omega) hfr
        simp only [FallV.cells] at hm
        simp -implicitDefEqProofs only [go_sem, seval, List.length_map, hdj, hm, B_mk]
        (with_reducible and_intros)<;>first|exact .dq|omega|skip
        refine CallN.gen [912] [64, 80] false (by simp) ?_
        simp -implicitDefEqProofs only [go_sem, seval]
        refine CallG.intro hFj ?_
        simp -implicitDefEqProofs only [go_sem, seval, B_mk]
        (with_reducible and_intros)<;>first|exact .dq|omega|skip
        refine CallN.gen [976] [64, 928] false (by simp) ?_
        simp -implicitDefEqProofs only [go_sem, seval]
        refine CallG.intro hRj ?_
        simp -implicitDefEqProofs only [go_sem, seval, hwj]
        (with_reducible and_intros)<;>first|exact .dq|omega|skip
        refine RoundK.step () hj trivial ?_
        rw [hst2]
        simp -implicitDefEqProofs only [go_sem, seval]
      intro _ hdx _
      rw [List.take_length, ← hVT]
      simp -implicitDefEqProofs only [go_sem, seval, hdx, List.length_map]
      (with_reducible and_intros)<;>first|exact .dq|omega|skip
      refine CallN.gen [80] [] false (by simp) ?_
      simp -implicitDefEqProofs only [go_sem, seval]
      refine CallG.intro hJ ?_
      simp -implicitDefEqProofs only [go_sem, seval]
    · have b2 : (r.amt == 0) = false := by simpa using q2
      simp -implicitDefEqProofs only [go_sem, seval, bne, b2, B_mk]
      (with_reducible and_intros)<;>first|exact .dq|omega|skip
      have hS3 := sayM_spec [tCode, itoa r.code, tNo, itoa r.no] tAmount [r.amt] (by simp) (by simp) (one _ ham)
      rw [show [tCode, itoa r.code, tNo, itoa r.no] ++ tAmount :: [r.amt].map itoa = [tCode, itoa r.code, tNo, itoa r.no, tAmount, itoa r.amt] from rfl] at hS3
      simp only [ints, List.map_cons, List.map_nil] at hS3
      refine CallN.gen [400] [64, 304] false (by simp) ?_
      simp -implicitDefEqProofs only [go_sem, seval]
      refine CallG.intro hS3 ?_
      simp -implicitDefEqProofs only [go_sem, seval, List.length_map]
      (with_reducible and_intros)<;>first|exact .dq|omega|skip
      have hH : [tCode, itoa r.code, tNo, itoa r.no, tAmount, itoa r.amt] = headW r := by unfold headW; rw [if_neg q1, if_neg q2]; rfl
      rw [hH]
      have e0 : headW r ++ (r.dues.take 0).flatMap dueW = headW r := by simp
      refine LoopK.walk (S := Unit) r.dues.length [1, 3, 27, 28] [32] (fun j _ => [(29, .int .i64 j)]) (fun j _ => [(64, .box [.ref 80]), (80, .own 1 (txtsB (headW r ++ (r.dues.take j).flatMap dueW)))]) (fun _ _ => True) () trivial ?_ ?_ ?_
      · rw [e0]
        simp -implicitDefEqProofs only [go_sem, seval] <;> simp
      · intro j _ hj hdj hwj _
        have hm := map_at (c := DueV.cells) r.dues hj
        have hdr := hds _ (List.getElem_mem hj)
        have hli : (j : Int) < (r.dues.length : Int) := by omega
        have hst := dues_step r.dues hj
        have hwl : (headW r ++ (r.dues.take j).flatMap dueW).length ≤ 2000 := by
          rw [List.length_append, dues_len, List.length_take]; omega
        obtain ⟨d, hd⟩ : ∃ d, d = r.dues[j] := ⟨_, rfl⟩
        rw [← hd] at hm hdr hst
        obtain ⟨W, hW⟩ : ∃ W, W = headW r ++ (r.dues.take j).flatMap dueW := ⟨_, rfl⟩
        have hst2 : headW r ++ (r.dues.take (j + 1)).flatMap dueW = W ++ dueW d := by rw [hst, hW, List.append_assoc]
        rw [← hW] at hwl ⊢
        have hDj := hD W d (by omega) hdr
        simp only [DueV.cells] at hm
        simp -implicitDefEqProofs only [go_sem, seval, List.length_map, hdj, hm, B_mk]
        (with_reducible and_intros)<;>first|exact .dq|omega|skip
        refine CallN.gen [640] [64, 80] false (by simp) ?_
        simp -implicitDefEqProofs only [go_sem, seval]
        refine CallG.intro hDj ?_
        simp -implicitDefEqProofs only [go_sem, seval, hwj]
        (with_reducible and_intros)<;>first|exact .dq|omega|skip
        refine RoundK.step () hj trivial ?_
        rw [hst2]
        simp -implicitDefEqProofs only [go_sem, seval]
      intro _ hdx _
      simp -implicitDefEqProofs only [go_sem, seval, hdx, List.take_length, List.length_map]
      (with_reducible and_intros)<;>first|exact .dq|omega|skip
      obtain ⟨V, hV⟩ : ∃ V, V = headW r ++ r.dues.flatMap dueW := ⟨_, rfl⟩
      have hVl : V.length ≤ 2000 := by rw [hV, List.length_append, dues_len]; omega
      have hVT : tellW r = V ++ r.falls.flatMap fallW := by rw [hV]; rfl
      rw [← hV]
      refine LoopK.walk (S := Unit) r.falls.length [3, 43, 44] [32] (fun j _ => [(45, .int .i64 j)]) (fun j _ => [(64, .box [.ref 80]), (80, .own 1 (txtsB (V ++ (r.falls.take j).flatMap fallW)))]) (fun _ _ => True) () trivial ?_ ?_ ?_
      · rw [show V ++ (r.falls.take 0).flatMap fallW = V by simp]
        simp -implicitDefEqProofs only [go_sem, seval] <;> simp
      · intro j _ hj hdj hwj _
        have hm := map_at (c := FallV.cells) r.falls hj
        have hfr := hfs _ (List.getElem_mem hj)
        have hli : (j : Int) < (r.falls.length : Int) := by omega
        have hst := falls_step r.falls hj
        have hwl : (V ++ (r.falls.take j).flatMap fallW).length ≤ 6000 := by
          rw [List.length_append, falls_len, List.length_take]; omega
        obtain ⟨f, hf⟩ : ∃ f, f = r.falls[j] := ⟨_, rfl⟩
        rw [← hf] at hm hfr hst
        obtain ⟨W, hW⟩ : ∃ W, W = V ++ (r.falls.take j).flatMap fallW := ⟨_, rfl⟩
        have hst2 : V ++ (r.falls.take (j + 1)).flatMap fallW = W ++ fallW f := by rw [hst, hW, List.append_assoc]
        rw [← hW] at hwl ⊢
        have hFj := hF W f (by omega) hfr
        have hRj := hR W f (by omega) hfr
        simp only [FallV.cells] at hm
        simp -implicitDefEqProofs only [go_sem, seval, List.length_map, hdj, hm, B_mk]
        (with_reducible and_intros)<;>first|exact .dq|omega|skip
        refine CallN.gen [912] [64, 80] false (by simp) ?_
        simp -implicitDefEqProofs only [go_sem, seval]
        refine CallG.intro hFj ?_
        simp -implicitDefEqProofs only [go_sem, seval, B_mk]
        (with_reducible and_intros)<;>first|exact .dq|omega|skip
        refine CallN.gen [976] [64, 928] false (by simp) ?_
        simp -implicitDefEqProofs only [go_sem, seval]
        refine CallG.intro hRj ?_
        simp -implicitDefEqProofs only [go_sem, seval, hwj]
        (with_reducible and_intros)<;>first|exact .dq|omega|skip
        refine RoundK.step () hj trivial ?_
        rw [hst2]
        simp -implicitDefEqProofs only [go_sem, seval]
      intro _ hdx _
      rw [List.take_length, ← hVT]
      simp -implicitDefEqProofs only [go_sem, seval, hdx, List.length_map]
      (with_reducible and_intros)<;>first|exact .dq|omega|skip
      refine CallN.gen [80] [] false (by simp) ?_
      simp -implicitDefEqProofs only [go_sem, seval]
      refine CallG.intro hJ ?_
      simp -implicitDefEqProofs only [go_sem, seval]
def spW (ws : List (List UInt8)) : List UInt8 := ws.flatMap fun w => 32 :: w
theorem spW_app (a b : List (List UInt8)) : spW (a ++ b) = spW a ++ spW b := List.flatMap_append
theorem joinW_spW (w : List UInt8) (ws l : List (List UInt8)) : joinW (w :: ws ++ l) = joinW (w :: ws) ++ spW l := by
  simp only [joinW, spW, List.cons_append, List.flatMap_append, List.append_assoc]
theorem tellW_txt (r : ReplyV) : joinW (tellW r) = joinW (headW r) ++ spW (r.dues.flatMap dueW) ++ spW (r.falls.flatMap fallW) := by
  unfold tellW headW
  rw [List.append_assoc, joinW_spW, spW_app, List.append_assoc]
theorem spW_len : ∀ (ws : List (List UInt8)), (∀ w ∈ ws, w.length ≤ 21) → (spW ws).length ≤ 22 * ws.length
  | [], _ => by simp [spW]
  | w :: ws, h => by
    have h1 := h w (by simp)
    have := spW_len ws fun x hx => h x (by simp [hx])
    simp only [spW] at this ⊢
    rw [List.flatMap_cons, List.length_append, List.length_cons, List.length_cons]; omega
theorem duesT_len (l : List DueV) (h : ∀ d ∈ l, d.rng) : (spW (l.flatMap dueW)).length ≤ 88 * l.length := by
  have := spW_len (l.flatMap dueW) (by
    intro w hw
    obtain ⟨d, hd, hw⟩ := List.mem_flatMap.1 hw
    exact dueW_short (h d hd) w hw)
  rw [dues_len] at this; omega
theorem fallsT_len (l : List FallV) (h : ∀ d ∈ l, d.rng) : (spW (l.flatMap fallW)).length ≤ 220 * l.length := by
  have := spW_len (l.flatMap fallW) (by
    intro w hw
    obtain ⟨d, hd, hw⟩ := List.mem_flatMap.1 hw
    exact fallW_short (h d hd) w hw)
  rw [falls_len] at this; omega
abbrev sNo : List UInt8 := [32, 110, 111]
abbrev sAmount : List UInt8 := [32, 97, 109, 111, 117, 110, 116]
abbrev sDue : List UInt8 := [32, 100, 117, 101]
abbrev sFall : List UInt8 := [32, 102, 97, 108, 108]
abbrev sRest : List UInt8 := [32, 114, 101, 115, 116]
/-- the words of a fall as far as so many shares -/
def fallT (f : FallV) (k : Nat) : List UInt8 := sFall ++ tailN [f.cur, f.loss] ++ tailN ([f.c0, f.c1, f.c2, f.c3, f.c4].take k)
theorem fallT_all (f : FallV) : fallT f 5 ++ (sRest ++ tailN [f.rest]) = spW (fallW f) := by
  simp [fallT, spW, fallW, tailN]
theorem fallT_len (f : FallV) (h : f.rng) (k : Nat) : (fallT f k).length ≤ 200 := by
  obtain ⟨h1, h2, h3, h4, h5, h6, h7, h8⟩ := h
  have a := tailN_len [f.cur, f.loss] (by
    intro n hn
    simp only [List.mem_cons, List.not_mem_nil, or_false] at hn
    rcases hn with rfl | rfl <;> assumption)
  have b := tailN_len ([f.c0, f.c1, f.c2, f.c3, f.c4].take k) (by
    intro n hn
    have hn := List.mem_of_mem_take hn
    simp only [List.mem_cons, List.not_mem_nil, or_false] at hn
    rcases hn with rfl | rfl | rfl | rfl | rfl <;> assumption)
  have c : ([f.c0, f.c1, f.c2, f.c3, f.c4].take k).length ≤ 5 := by rw [List.length_take]; exact Nat.min_le_right _ _
  simp only [fallT, List.length_append, List.length_cons, List.length_nil] at a b c ⊢
  omega
set_option maxRecDepth 8000 in
set_option maxHeartbeats 4000000 in
theorem refTell_spec (r : ReplyV) (hr : r.rngs) (h1 : r.dues.length ≤ 300) (h2 : r.falls.length ≤ 300) : Abs.Spec Tryd.prog 17 [] [.agg r.cells] [] (.str (B (joinW (tellW r)))) := by
  obtain ⟨hc, hno, ham, hds, hfs⟩ := hr
  have one : ∀ n, I64 n → ∀ m ∈ [n], I64 m := fun n h m hm => by rw [List.mem_singleton.1 hm]; exact h
  have onel : ∀ n, I64 n → (tailN [n]).length ≤ 22 := fun n h => by have := tailN_len [n] (one n h); simpa using this
  rw [tellW_txt]
  have hSc := say27_spec tCode [r.code] (by simp) (by simp) (one _ hc)
  have hSn := say27_spec sNo [r.no] (by simp) (by simp) (one _ hno)
  have hSa := say27_spec sAmount [r.amt] (by simp) (by simp) (one _ ham)
  simp only [ints, List.map_cons, List.map_nil] at hSc hSn hSa
  have hlc := onel _ hc
  have hln := onel _ hno
  have hla := onel _ ham
  obtain ⟨C, hC⟩ : ∃ C, C = tCode ++ tailN [r.code] := ⟨_, rfl⟩
  obtain ⟨M, hM⟩ : ∃ M, M = sNo ++ tailN [r.no] := ⟨_, rfl⟩
  obtain ⟨A, hA⟩ : ∃ A, A = sAmount ++ tailN [r.amt] := ⟨_, rfl⟩
  have hCl : C.length ≤ 40 := by rw [hC, List.length_append]; simp only [List.length_cons, List.length_nil]; omega
  have hMl : M.length ≤ 40 := by rw [hM, List.length_append]; simp only [List.length_cons, List.length_nil]; omega
  have hAl : A.length ≤ 40 := by rw [hA, List.length_append]; simp only [List.length_cons, List.length_nil]; omega
  rw [← hC] at hSc
  rw [← hM] at hSn
  rw [← hA] at hSa
  have hD : ∀ d : DueV, d.rng → Abs.Spec Tryd.prog 32 [] [.str (B sDue), .sl 1 [[.int .i64 d.who], [.int .i64 d.cur], [.int .i64 d.amt]]] [] (.str (B (spW (dueW d)))) := by
    intro d hd
    have := say27_spec sDue [d.who, d.cur, d.amt] (by simp) (by simp) (by
      intro n hn
      simp only [List.mem_cons, List.not_mem_nil, or_false] at hn
      rcases hn with rfl | rfl | rfl
      · exact hd.1
      · exact hd.2.1
      · exact hd.2.2)
    rwa [show sDue ++ tailN [d.who, d.cur, d.amt] = spW (dueW d) by simp [spW, dueW, tailN]] at this
  have hF : ∀ f : FallV, f.rng → Abs.Spec Tryd.prog 32 [] [.str (B sFall), .sl 1 [[.int .i64 f.cur], [.int .i64 f.loss]]] [] (.str (B (fallT f 0))) := by
    intro f hf
    have := say27_spec sFall [f.cur, f.loss] (by simp) (by simp) (by
      intro n hn
      simp only [List.mem_cons, List.not_mem_nil, or_false] at hn
      rcases hn with rfl | rfl
      · exact hf.1
      · exact hf.2.1)
    rwa [show sFall ++ tailN [f.cur, f.loss] = fallT f 0 by simp [fallT, tailN]] at this
  have hR : ∀ f : FallV, f.rng → Abs.Spec Tryd.prog 32 [] [.str (B sRest), .sl 1 [[.int .i64 f.rest]]] [] (.str (B (sRest ++ tailN [f.rest]))) := by
    intro f hf
    exact say27_spec sRest [f.rest] (by simp) (by simp) (one _ hf.2.2.2.2.2.2.2)
  have hN : ∀ (f : FallV), f.rng → ∀ k (hk : k < 5), Abs.Spec Tryd.prog 33 [] [[.int .i64 f.c0, .int .i64 f.c1, .int .i64 f.c2, .int .i64 f.c3, .int .i64 f.c4][k]] [] (.str (B (itoa [f.c0, f.c1, f.c2, f.c3, f.c4][k]))) := by
    intro f hf k hk
    obtain ⟨g1, g2, g3, g4, g5, g6, g7, g8⟩ := hf
    rcases (by omega : k = 0 ∨ k = 1 ∨ k = 2 ∨ k = 3 ∨ k = 4) with rfl | rfl | rfl | rfl | rfl <;> exact number27_spec _ (by assumption)
  simp only [ReplyV.cells]
  refine sgo 98 1 [.tmp 2] mixed Tryd.func17 ?_
  simp -implicitDefEqProofs only [go_sem, seval, B_mk]
  (with_reducible and_intros)<;>first|exact .dq|omega|skip
  refine CallN.gen [] [] true (by simp) ?_
  simp -implicitDefEqProofs only [go_sem, seval]
  refine CallG.intro hSc ?_
  simp -implicitDefEqProofs only [go_sem, seval]
  by_cases q1 : r.no = 0
  · have b1 : (r.no == 0) = true := by simpa using q1
    simp -implicitDefEqProofs only [go_sem, seval, bne, b1, B_mk]
    (with_reducible and_intros)<;>first|exact .dq|omega|skip
    by_cases q2 : r.amt = 0
    · have b2 : (r.amt == 0) = true := by simpa using q2
      simp -implicitDefEqProofs only [go_sem, seval, bne, b2, B_mk, List.length_map]
      (with_reducible and_intros)<;>first|exact .dq|omega|skip
      have hHl : (C).length ≤ 200 := by (try simp only [List.length_append]); omega
      obtain ⟨H, hHe⟩ : ∃ H, H = C := ⟨_, rfl⟩
      rw [← hHe] at hHl ⊢
      have hH : H = joinW (headW r) := by
        rw [hHe, hC]; unfold headW; rw [if_pos q1, if_pos q2]; simp [joinW, tailN]
      rw [← hH]
      have e0 : H ++ spW ((r.dues.take 0).flatMap dueW) = H := by simp [spW]
      refine LoopK.walk (S := Unit) r.dues.length [1] [32] (fun j _ => [(3, .str (B (H ++ spW ((r.dues.take j).flatMap dueW)))), (4, .int .i64 j)]) (fun j _ => []) (fun _ _ => True) () trivial ?_ ?_ ?_
      · rw [e0]
        simp -implicitDefEqProofs only [go_sem, seval] <;> simp
      · intro j _ hj hdj hwj _
        have hm := map_at (c := DueV.cells) r.dues hj
        have hdr := hds _ (List.getElem_mem hj)
        have hli : (j : Int) < (r.dues.length : Int) := by omega
        have hst := dues_step r.dues hj
        have hwl : (spW ((r.dues.take j).flatMap dueW)).length ≤ 88 * 300 := by
          have := duesT_len (r.dues.take j) fun d hd => hds d (List.mem_of_mem_take hd)
          rw [List.length_take] at this; omega
        obtain ⟨d, hd⟩ : ∃ d, d = r.dues[j] := ⟨_, rfl⟩
        rw [← hd] at hm hdr hst
        have hst2 : H ++ spW ((r.dues.take (j + 1)).flatMap dueW) = H ++ spW ((r.dues.take j).flatMap dueW) ++ spW (dueW d) := by rw [hst, spW_app, List.append_assoc]
        have hwt : (H ++ spW ((r.dues.take j).flatMap dueW)).length ≤ 30000 := by rw [List.length_append]; omega
        have hwd : (spW (dueW d)).length ≤ 100 := by
          have := spW_len (dueW d) (dueW_short hdr)
          simp only [dueW, List.length_cons, List.length_nil] at this ⊢; omega
        obtain ⟨W, hW⟩ : ∃ W, W = H ++ spW ((r.dues.take j).flatMap dueW) := ⟨_, rfl⟩
        rw [← hW] at hst2 hwt ⊢
        have hDj := hD d hdr
        simp only [DueV.cells] at hm
        simp -implicitDefEqProofs only [go_sem, seval, List.length_map, hdj, hm, B_mk]
        (with_reducible and_intros)<;>first|exact .dq|omega|skip
        refine CallN.gen [] [] true (by simp) ?_
        simp -implicitDefEqProofs only [go_sem, seval]
        refine CallG.intro hDj ?_
        simp -implicitDefEqProofs only [go_sem, seval, B_app, B_size, List.length_append, hwj]
        (with_reducible and_intros)<;>first|exact .dq|omega|skip
        refine RoundK.step () hj trivial ?_
        rw [hst2]
        simp -implicitDefEqProofs only [go_sem, seval]
      intro _ hdx _
      simp -implicitDefEqProofs only [go_sem, seval, hdx, List.take_length, List.length_map]
      (with_reducible and_intros)<;>first|exact .dq|omega|skip
      have hdl := duesT_len r.dues hds
      obtain ⟨V, hV⟩ : ∃ V, V = H ++ spW (r.dues.flatMap dueW) := ⟨_, rfl⟩
      have hVl : V.length ≤ 30000 := by rw [hV, List.length_append]; omega
      rw [← hV]
      refine LoopK.walk (S := Unit) r.falls.length [1] [32] (fun j _ => [(3, .str (B (V ++ spW ((r.falls.take j).flatMap fallW)))), (5, .int .i64 j)]) (fun j _ => []) (fun _ _ => True) () trivial ?_ ?_ ?_
      · rw [show V ++ spW ((r.falls.take 0).flatMap fallW) = V by simp [spW]]
        simp -implicitDefEqProofs only [go_sem, seval] <;> simp
      · intro j _ hj hdj hwj _
        have hm := map_at (c := FallV.cells) r.falls hj
        have hfr := hfs _ (List.getElem_mem hj)
        have hli : (j : Int) < (r.falls.length : Int) := by omega
        have hst := falls_step r.falls hj
        have hwl : (spW ((r.falls.take j).flatMap fallW)).length ≤ 220 * 300 := by
          have := fallsT_len (r.falls.take j) fun d hd => hfs d (List.mem_of_mem_take hd)
          rw [List.length_take] at this; omega
        obtain ⟨f, hf⟩ : ∃ f, f = r.falls[j] := ⟨_, rfl⟩
        rw [← hf] at hm hfr hst
        have hst2 : V ++ spW ((r.falls.take (j + 1)).flatMap fallW) = V ++ spW ((r.falls.take j).flatMap fallW) ++ fallT f 5 ++ (sRest ++ tailN [f.rest]) := by rw [hst, spW_app, ← fallT_all, List.append_assoc, List.append_assoc]
        have hwt : (V ++ spW ((r.falls.take j).flatMap fallW)).length ≤ 100000 := by rw [List.length_append]; omega
        obtain ⟨W, hW⟩ : ∃ W, W = V ++ spW ((r.falls.take j).flatMap fallW) := ⟨_, rfl⟩
        rw [← hW] at hst2 hwt ⊢
        have hFj := hF f hfr
        have hRj := hR f hfr
        have hNj := hN f hfr
        have hTl := fallT_len f hfr
        have hlr := onel _ hfr.2.2.2.2.2.2.2
        have hrl : (sRest ++ tailN [f.rest]).length ≤ 100 := by rw [List.length_append]; simp only [List.length_cons, List.length_nil]; omega
        have h0 := hTl 0
        have h5 := hTl 5
        simp only [FallV.cells] at hm
        simp -implicitDefEqProofs only [go_sem, seval, List.length_map, hdj, hm, B_mk]
        (with_reducible and_intros)<;>first|exact .dq|omega|skip
        refine CallN.gen [] [] true (by simp) ?_
        simp -implicitDefEqProofs only [go_sem, seval]
        refine CallG.intro hFj ?_
        simp -implicitDefEqProofs only [go_sem, seval, B_app, B_size, List.length_append]
        (with_reducible and_intros)<;>first|exact .dq|omega|skip
        refine LoopK.walk (S := Unit) 5 [1, 5, 6] [32, 112] (fun k _ => [(3, .str (B (W ++ fallT f k))), (7, .int .i64 k)]) (fun _ _ => []) (fun _ _ => True) () trivial ?_ ?_ ?_
        · simp -implicitDefEqProofs only [go_sem, seval] <;> simp
        · intro k _ hk hdk hwk _
          have hk5 : k < 5 := hk
          have hTk := hTl k
          have hNk := hNj k hk5
          have hil := itoa_len [f.c0, f.c1, f.c2, f.c3, f.c4][k] (by
            obtain ⟨g1, g2, g3, g4, g5, g6, g7, g8⟩ := hfr
            rcases (by omega : k = 0 ∨ k = 1 ∨ k = 2 ∨ k = 3 ∨ k = 4) with rfl | rfl | rfl | rfl | rfl <;> assumption)
          have hsk : W ++ fallT f k ++ [32] ++ itoa [f.c0, f.c1, f.c2, f.c3, f.c4][k] = W ++ fallT f (k + 1) := by
            rcases (by omega : k = 0 ∨ k = 1 ∨ k = 2 ∨ k = 3 ∨ k = 4) with rfl | rfl | rfl | rfl | rfl <;> simp [fallT, tailN]
          have hWk : (W ++ fallT f k).length ≤ 100300 := by rw [List.length_append]; omega
          obtain ⟨T, hT⟩ : ∃ T, T = W ++ fallT f k := ⟨_, rfl⟩
          rw [← hT] at hsk hWk ⊢
          clear hT
          rcases (by omega : k = 0 ∨ k = 1 ∨ k = 2 ∨ k = 3 ∨ k = 4) with rfl | rfl | rfl | rfl | rfl
          all_goals
            simp only [List.getElem_cons_zero, List.getElem_cons_succ] at hNk hsk hil
            simp -implicitDefEqProofs only [go_sem, seval, B_mk, B_app, B_size, List.length_append, List.length_cons, List.length_nil]
            (with_reducible and_intros)<;>first|exact .dq|omega|skip
            refine CallN.pure hNk ?_
            simp -implicitDefEqProofs only [go_sem, seval, B_mk, B_app, B_size, hwk, hsk, List.length_append, List.length_cons, List.length_nil]
            (with_reducible and_intros)<;>first|exact .dq|omega|skip
            refine RoundK.step () hk trivial ?_
            simp -implicitDefEqProofs only [go_sem, seval] <;> rfl
        intro _ hdk _
        simp -implicitDefEqProofs only [go_sem, seval, hdk]
        (with_reducible and_intros)<;>first|exact .dq|omega|skip
        refine CallN.gen [] [] true (by simp) ?_
        simp -implicitDefEqProofs only [go_sem, seval]
        refine CallG.intro hRj ?_
        simp -implicitDefEqProofs only [go_sem, seval, B_app, B_size, List.length_append, hwj]
        (with_reducible and_intros)<;>first|exact .dq|omega|skip
        refine RoundK.step () hj trivial ?_
        rw [hst2]
        simp -implicitDefEqProofs only [go_sem, seval]
      intro _ hdx _
      rw [List.take_length]
      simp -implicitDefEqProofs only [go_sem, seval, hdx, List.length_map]
    · have b2 : (r.amt == 0) = false := by simpa using q2
      simp -implicitDefEqProofs only [go_sem, seval, bne, b2, B_mk, List.length_map]
      (with_reducible and_intros)<;>first|exact .dq|omega|skip
      refine CallN.gen [] [] true (by simp) ?_
      simp -implicitDefEqProofs only [go_sem, seval]
      refine CallG.intro hSa ?_
      simp -implicitDefEqProofs only [go_sem, seval, B_app, B_size, List.length_append, List.length_map]
      (with_reducible and_intros)<;>first|exact .dq|omega|skip
      have hHl : (C ++ A).length ≤ 200 := by (try simp only [List.length_append]); omega
      obtain ⟨H, hHe⟩ : ∃ H, H = C ++ A := ⟨_, rfl⟩
      rw [← hHe] at hHl ⊢
      have hH : H = joinW (headW r) := by
        rw [hHe, hC, hA]; unfold headW; rw [if_pos q1, if_neg q2]; simp [joinW, tailN]
      rw [← hH]
      have e0 : H ++ spW ((r.dues.take 0).flatMap dueW) = H := by simp [spW]
      refine LoopK.walk (S := Unit) r.dues.length [1] [32] (fun j _ => [(3, .str (B (H ++ spW ((r.dues.take j).flatMap dueW)))), (4, .int .i64 j)]) (fun j _ => []) (fun _ _ => True) () trivial ?_ ?_ ?_
      · rw [e0]
        simp -implicitDefEqProofs only [go_sem, seval] <;> simp
      · intro j _ hj hdj hwj _
        have hm := map_at (c := DueV.cells) r.dues hj
        have hdr := hds _ (List.getElem_mem hj)
        have hli : (j : Int) < (r.dues.length : Int) := by omega
        have hst := dues_step r.dues hj
        have hwl : (spW ((r.dues.take j).flatMap dueW)).length ≤ 88 * 300 := by
          have := duesT_len (r.dues.take j) fun d hd => hds d (List.mem_of_mem_take hd)
          rw [List.length_take] at this; omega
        obtain ⟨d, hd⟩ : ∃ d, d = r.dues[j] := ⟨_, rfl⟩
        rw [← hd] at hm hdr hst
        have hst2 : H ++ spW ((r.dues.take (j + 1)).flatMap dueW) = H ++ spW ((r.dues.take j).flatMap dueW) ++ spW (dueW d) := by rw [hst, spW_app, List.append_assoc]
        have hwt : (H ++ spW ((r.dues.take j).flatMap dueW)).length ≤ 30000 := by rw [List.length_append]; omega
        have hwd : (spW (dueW d)).length ≤ 100 := by
          have := spW_len (dueW d) (dueW_short hdr)
          simp only [dueW, List.length_cons, List.length_nil] at this ⊢; omega
        obtain ⟨W, hW⟩ : ∃ W, W = H ++ spW ((r.dues.take j).flatMap dueW) := ⟨_, rfl⟩
        rw [← hW] at hst2 hwt ⊢
        have hDj := hD d hdr
        simp only [DueV.cells] at hm
        simp -implicitDefEqProofs only [go_sem, seval, List.length_map, hdj, hm, B_mk]
        (with_reducible and_intros)<;>first|exact .dq|omega|skip
        refine CallN.gen [] [] true (by simp) ?_
        simp -implicitDefEqProofs only [go_sem, seval]
        refine CallG.intro hDj ?_
        simp -implicitDefEqProofs only [go_sem, seval, B_app, B_size, List.length_append, hwj]
        (with_reducible and_intros)<;>first|exact .dq|omega|skip
        refine RoundK.step () hj trivial ?_
        rw [hst2]
        simp -implicitDefEqProofs only [go_sem, seval]
      intro _ hdx _
      simp -implicitDefEqProofs only [go_sem, seval, hdx, List.take_length, List.length_map]
      (with_reducible and_intros)<;>first|exact .dq|omega|skip
      have hdl := duesT_len r.dues hds
      obtain ⟨V, hV⟩ : ∃ V, V = H ++ spW (r.dues.flatMap dueW) := ⟨_, rfl⟩
      have hVl : V.length ≤ 30000 := by rw [hV, List.length_append]; omega
      rw [← hV]
      refine LoopK.walk (S := Unit) r.falls.length [1] [32] (fun j _ => [(3, .str (B (V ++ spW ((r.falls.take j).flatMap fallW)))), (5, .int .i64 j)]) (fun j _ => []) (fun _ _ => True) () trivial ?_ ?_ ?_
      · rw [show V ++ spW ((r.falls.take 0).flatMap fallW) = V by simp [spW]]
        simp -implicitDefEqProofs only [go_sem, seval] <;> simp
      · intro j _ hj hdj hwj _
        have hm := map_at (c := FallV.cells) r.falls hj
        have hfr := hfs _ (List.getElem_mem hj)
        have hli : (j : Int) < (r.falls.length : Int) := by omega
        have hst := falls_step r.falls hj
        have hwl : (spW ((r.falls.take j).flatMap fallW)).length ≤ 220 * 300 := by
          have := fallsT_len (r.falls.take j) fun d hd => hfs d (List.mem_of_mem_take hd)
          rw [List.length_take] at this; omega
        obtain ⟨f, hf⟩ : ∃ f, f = r.falls[j] := ⟨_, rfl⟩
        rw [← hf] at hm hfr hst
        have hst2 : V ++ spW ((r.falls.take (j + 1)).flatMap fallW) = V ++ spW ((r.falls.take j).flatMap fallW) ++ fallT f 5 ++ (sRest ++ tailN [f.rest]) := by rw [hst, spW_app, ← fallT_all, List.append_assoc, List.append_assoc]
        have hwt : (V ++ spW ((r.falls.take j).flatMap fallW)).length ≤ 100000 := by rw [List.length_append]; omega
        obtain ⟨W, hW⟩ : ∃ W, W = V ++ spW ((r.falls.take j).flatMap fallW) := ⟨_, rfl⟩
        rw [← hW] at hst2 hwt ⊢
        have hFj := hF f hfr
        have hRj := hR f hfr
        have hNj := hN f hfr
        have hTl := fallT_len f hfr
        have hlr := onel _ hfr.2.2.2.2.2.2.2
        have hrl : (sRest ++ tailN [f.rest]).length ≤ 100 := by rw [List.length_append]; simp only [List.length_cons, List.length_nil]; omega
        have h0 := hTl 0
        have h5 := hTl 5
        simp only [FallV.cells] at hm
        simp -implicitDefEqProofs only [go_sem, seval, List.length_map, hdj, hm, B_mk]
        (with_reducible and_intros)<;>first|exact .dq|omega|skip
        refine CallN.gen [] [] true (by simp) ?_
        simp -implicitDefEqProofs only [go_sem, seval]
        refine CallG.intro hFj ?_
        simp -implicitDefEqProofs only [go_sem, seval, B_app, B_size, List.length_append]
        (with_reducible and_intros)<;>first|exact .dq|omega|skip
        refine LoopK.walk (S := Unit) 5 [1, 5, 6] [32, 112] (fun k _ => [(3, .str (B (W ++ fallT f k))), (7, .int .i64 k)]) (fun _ _ => []) (fun _ _ => True) () trivial ?_ ?_ ?_
        · simp -implicitDefEqProofs only [go_sem, seval] <;> simp
        · intro k _ hk hdk hwk _
          have hk5 : k < 5 := hk
          have hTk := hTl k
          have hNk := hNj k hk5
          have hil := itoa_len [f.c0, f.c1, f.c2, f.c3, f.c4][k] (by
            obtain ⟨g1, g2, g3, g4, g5, g6, g7, g8⟩ := hfr
            rcases (by omega : k = 0 ∨ k = 1 ∨ k = 2 ∨ k = 3 ∨ k = 4) with rfl | rfl | rfl | rfl | rfl <;> assumption)
          have hsk : W ++ fallT f k ++ [32] ++ itoa [f.c0, f.c1, f.c2, f.c3, f.c4][k] = W ++ fallT f (k + 1) := by
            rcases (by omega : k = 0 ∨ k = 1 ∨ k = 2 ∨ k = 3 ∨ k = 4) with rfl | rfl | rfl | rfl | rfl <;> simp [fallT, tailN]
          have hWk : (W ++ fallT f k).length ≤ 100300 := by rw [List.length_append]; omega
          obtain ⟨T, hT⟩ : ∃ T, T = W ++ fallT f k := ⟨_, rfl⟩
          rw [← hT] at hsk hWk ⊢
          clear hT
          rcases (by omega : k = 0 ∨ k = 1 ∨ k = 2 ∨ k = 3 ∨ k = 4) with rfl | rfl | rfl | rfl | rfl
          all_goals
            simp only [List.getElem_cons_zero, List.getElem_cons_succ] at hNk hsk hil
            simp -implicitDefEqProofs only [go_sem, seval, B_mk, B_app, B_size, List.length_append, List.length_cons, List.length_nil]
            (with_reducible and_intros)<;>first|exact .dq|omega|skip
            refine CallN.pure hNk ?_
            simp -implicitDefEqProofs only [go_sem, seval, B_mk, B_app, B_size, hwk, hsk, List.length_append, List.length_cons, List.length_nil]
            (with_reducible and_intros)<;>first|exact .dq|omega|skip
            refine RoundK.step () hk trivial ?_
            simp -implicitDefEqProofs only [go_sem, seval] <;> rfl
        intro _ hdk _
        simp -implicitDefEqProofs only [go_sem, seval, hdk]
        (with_reducible and_intros)<;>first|exact .dq|omega|skip
        refine CallN.gen [] [] true (by simp) ?_
        simp -implicitDefEqProofs only [go_sem, seval]
        refine CallG.intro hRj ?_
        simp -implicitDefEqProofs only [go_sem, seval, B_app, B_size, List.length_append, hwj]
        (with_reducible and_intros)<;>first|exact .dq|omega|skip
        refine RoundK.step () hj trivial ?_
        rw [hst2]
        simp -implicitDefEqProofs only [go_sem, seval]
      intro _ hdx _
      rw [List.take_length]
      simp -implicitDefEqProofs only [go_sem, seval, hdx, List.length_map]
  · have b1 : (r.no == 0) = false := by simpa using q1
    simp -implicitDefEqProofs only [go_sem, seval, bne, b1, B_mk]
    (with_reducible and_intros)<;>first|exact .dq|omega|skip
    refine CallN.gen [] [] true (by simp) ?_
    simp -implicitDefEqProofs only [go_sem, seval]
    refine CallG.intro hSn ?_
    simp -implicitDefEqProofs only [go_sem, seval, B_app, B_size, List.length_append]
    (with_reducible and_intros)<;>first|exact .dq|omega|skip
    by_cases q2 : r.amt = 0
    · have b2 : (r.amt == 0) = true := by simpa using q2
      simp -implicitDefEqProofs only [go_sem, seval, bne, b2, B_mk, List.length_map]
      (with_reducible and_intros)<;>first|exact .dq|omega|skip
      have hHl : (C ++ M).length ≤ 200 := by (try simp only [List.length_append]); omega
      obtain ⟨H, hHe⟩ : ∃ H, H = C ++ M := ⟨_, rfl⟩
      rw [← hHe] at hHl ⊢
      have hH : H = joinW (headW r) := by
        rw [hHe, hC, hM]; unfold headW; rw [if_neg q1, if_pos q2]; simp [joinW, tailN]
      rw [← hH]
      have e0 : H ++ spW ((r.dues.take 0).flatMap dueW) = H := by simp [spW]
      refine LoopK.walk (S := Unit) r.dues.length [1] [32] (fun j _ => [(3, .str (B (H ++ spW ((r.dues.take j).flatMap dueW)))), (4, .int .i64 j)]) (fun j _ => []) (fun _ _ => True) () trivial ?_ ?_ ?_
      · rw [e0]
        simp -implicitDefEqProofs only [go_sem, seval] <;> simp
      · intro j _ hj hdj hwj _
        have hm := map_at (c := DueV.cells) r.dues hj
        have hdr := hds _ (List.getElem_mem hj)
        have hli : (j : Int) < (r.dues.length : Int) := by omega
        have hst := dues_step r.dues hj
        have hwl : (spW ((r.dues.take j).flatMap dueW)).length ≤ 88 * 300 := by
          have := duesT_len (r.dues.take j) fun d hd => hds d (List.mem_of_mem_take hd)
          rw [List.length_take] at this; omega
        obtain ⟨d, hd⟩ : ∃ d, d = r.dues[j] := ⟨_, rfl⟩
        rw [← hd] at hm hdr hst
        have hst2 : H ++ spW ((r.dues.take (j + 1)).flatMap dueW) = H ++ spW ((r.dues.take j).flatMap dueW) ++ spW (dueW d) := by rw [hst, spW_app, List.append_assoc]
        have hwt : (H ++ spW ((r.dues.take j).flatMap dueW)).length ≤ 30000 := by rw [List.length_append]; omega
        have hwd : (spW (dueW d)).length ≤ 100 := by
          have := spW_len (dueW d) (dueW_short hdr)
          simp only [dueW, List.length_cons, List.length_nil] at this ⊢; omega
        obtain ⟨W, hW⟩ : ∃ W, W = H ++ spW ((r.dues.take j).flatMap dueW) := ⟨_, rfl⟩
        rw [← hW] at hst2 hwt ⊢
        have hDj := hD d hdr
        simp only [DueV.cells] at hm
        simp -implicitDefEqProofs only [go_sem, seval, List.length_map, hdj, hm, B_mk]
        (with_reducible and_intros)<;>first|exact .dq|omega|skip
        refine CallN.gen [] [] true (by simp) ?_
        simp -implicitDefEqProofs only [go_sem, seval]
        refine CallG.intro hDj ?_
        simp -implicitDefEqProofs only [go_sem, seval, B_app, B_size, List.length_append, hwj]
        (with_reducible and_intros)<;>first|exact .dq|omega|skip
        refine RoundK.step () hj trivial ?_
        rw [hst2]
        simp -implicitDefEqProofs only [go_sem, seval]
      intro _ hdx _
      simp -implicitDefEqProofs only [go_sem, seval, hdx, List.take_length, List.length_map]
      (with_reducible and_intros)<;>first|exact .dq|omega|skip
      have hdl := duesT_len r.dues hds
      obtain ⟨V, hV⟩ : ∃ V, V = H ++ spW (r.dues.flatMap dueW) := ⟨_, rfl⟩
      have hVl : V.length ≤ 30000 := by rw [hV, List.length_append]; omega
      rw [← hV]
      refine LoopK.walk (S := Unit) r.falls.length [1] [32] (fun j _ => [(3, .str (B (V ++ spW ((r.falls.take j).flatMap fallW)))), (5, .int .i64 j)]) (fun j _ => []) (fun _ _ => True) () trivial ?_ ?_ ?_
      · rw [show V ++ spW ((r.falls.take 0).flatMap fallW) = V by simp [spW]]
        simp -implicitDefEqProofs only [go_sem, seval] <;> simp
      · intro j _ hj hdj hwj _
        have hm := map_at (c := FallV.cells) r.falls hj
        have hfr := hfs _ (List.getElem_mem hj)
        have hli : (j : Int) < (r.falls.length : Int) := by omega
        have hst := falls_step r.falls hj
        have hwl : (spW ((r.falls.take j).flatMap fallW)).length ≤ 220 * 300 := by
          have := fallsT_len (r.falls.take j) fun d hd => hfs d (List.mem_of_mem_take hd)
          rw [List.length_take] at this; omega
        obtain ⟨f, hf⟩ : ∃ f, f = r.falls[j] := ⟨_, rfl⟩
        rw [← hf] at hm hfr hst
        have hst2 : V ++ spW ((r.falls.take (j + 1)).flatMap fallW) = V ++ spW ((r.falls.take j).flatMap fallW) ++ fallT f 5 ++ (sRest ++ tailN [f.rest]) := by rw [hst, spW_app, ← fallT_all, List.append_assoc, List.append_assoc]
        have hwt : (V ++ spW ((r.falls.take j).flatMap fallW)).length ≤ 100000 := by rw [List.length_append]; omega
        obtain ⟨W, hW⟩ : ∃ W, W = V ++ spW ((r.falls.take j).flatMap fallW) := ⟨_, rfl⟩
        rw [← hW] at hst2 hwt ⊢
        have hFj := hF f hfr
        have hRj := hR f hfr
        have hNj := hN f hfr
        have hTl := fallT_len f hfr
        have hlr := onel _ hfr.2.2.2.2.2.2.2
        have hrl : (sRest ++ tailN [f.rest]).length ≤ 100 := by rw [List.length_append]; simp only [List.length_cons, List.length_nil]; omega
        have h0 := hTl 0
        have h5 := hTl 5
        simp only [FallV.cells] at hm
        simp -implicitDefEqProofs only [go_sem, seval, List.length_map, hdj, hm, B_mk]
        (with_reducible and_intros)<;>first|exact .dq|omega|skip
        refine CallN.gen [] [] true (by simp) ?_
        simp -implicitDefEqProofs only [go_sem, seval]
        refine CallG.intro hFj ?_
        simp -implicitDefEqProofs only [go_sem, seval, B_app, B_size, List.length_append]
        (with_reducible and_intros)<;>first|exact .dq|omega|skip
        refine LoopK.walk (S := Unit) 5 [1, 5, 6] [32, 112] (fun k _ => [(3, .str (B (W ++ fallT f k))), (7, .int .i64 k)]) (fun _ _ => []) (fun _ _ => True) () trivial ?_ ?_ ?_
        · simp -implicitDefEqProofs only [go_sem, seval] <;> simp
        · intro k _ hk hdk hwk _
          have hk5 : k < 5 := hk
          have hTk := hTl k
          have hNk := hNj k hk5
          have hil := itoa_len [f.c0, f.c1, f.c2, f.c3, f.c4][k] (by
            obtain ⟨g1, g2, g3, g4, g5, g6, g7, g8⟩ := hfr
            rcases (by omega : k = 0 ∨ k = 1 ∨ k = 2 ∨ k = 3 ∨ k = 4) with rfl | rfl | rfl | rfl | rfl <;> assumption)
          have hsk : W ++ fallT f k ++ [32] ++ itoa [f.c0, f.c1, f.c2, f.c3, f.c4][k] = W ++ fallT f (k + 1) := by
            rcases (by omega : k = 0 ∨ k = 1 ∨ k = 2 ∨ k = 3 ∨ k = 4) with rfl | rfl | rfl | rfl | rfl <;> simp [fallT, tailN]
          have hWk : (W ++ fallT f k).length ≤ 100300 := by rw [List.length_append]; omega
          obtain ⟨T, hT⟩ : ∃ T, T = W ++ fallT f k := ⟨_, rfl⟩
          rw [← hT] at hsk hWk ⊢
          clear hT
          rcases (by omega : k = 0 ∨ k = 1 ∨ k = 2 ∨ k = 3 ∨ k = 4) with rfl | rfl | rfl | rfl | rfl
          all_goals
            simp only [List.getElem_cons_zero, List.getElem_cons_succ] at hNk hsk hil
            simp -implicitDefEqProofs only [go_sem, seval, B_mk, B_app, B_size, List.length_append, List.length_cons, List.length_nil]
            (with_reducible and_intros)<;>first|exact .dq|omega|skip
            refine CallN.pure hNk ?_
            simp -implicitDefEqProofs only [go_sem, seval, B_mk, B_app, B_size, hwk, hsk, List.length_append, List.length_cons, List.length_nil]
            (with_reducible and_intros)<;>first|exact .dq|omega|skip
            refine RoundK.step () hk trivial ?_
            simp -implicitDefEqProofs only [go_sem, seval] <;> rfl
        intro _ hdk _
        simp -implicitDefEqProofs only [go_sem, seval, hdk]
        (with_reducible and_intros)<;>first|exact .dq|omega|skip
        refine CallN.gen [] [] true (by simp) ?_
        simp -implicitDefEqProofs only [go_sem, seval]
        refine CallG.intro hRj ?_
        simp -implicitDefEqProofs only [go_sem, seval, B_app, B_size, List.length_append, hwj]
        (with_reducible and_intros)<;>first|exact .dq|omega|skip
        refine RoundK.step () hj trivial ?_
        rw [hst2]
        simp -implicitDefEqProofs only [go_sem, seval]
      intro _ hdx _
      rw [List.take_length]
      simp -implicitDefEqProofs only [go_sem, seval, hdx, List.length_map]
    · have b2 : (r.amt == 0) = false := by simpa using q2
      simp -implicitDefEqProofs only [go_sem, seval, bne, b2, B_mk, List.length_map]
      (with_reducible and_intros)<;>first|exact .dq|omega|skip
      refine CallN.gen [] [] true (by simp) ?_
      simp -implicitDefEqProofs only [go_sem, seval]
      refine CallG.intro hSa ?_
      simp -implicitDefEqProofs only [go_sem, seval, B_app, B_size, List.length_append, List.length_map]
      (with_reducible and_intros)<;>first|exact .dq|omega|skip
      have hHl : (C ++ M ++ A).length ≤ 200 := by (try simp only [List.length_append]); omega
      obtain ⟨H, hHe⟩ : ∃ H, H = C ++ M ++ A := ⟨_, rfl⟩
      rw [← hHe] at hHl ⊢
      have hH : H = joinW (headW r) := by
        rw [hHe, hC, hM, hA]; unfold headW; rw [if_neg q1, if_neg q2]; simp [joinW, tailN]
      rw [← hH]
      have e0 : H ++ spW ((r.dues.take 0).flatMap dueW) = H := by simp [spW]
      refine LoopK.walk (S := Unit) r.dues.length [1] [32] (fun j _ => [(3, .str (B (H ++ spW ((r.dues.take j).flatMap dueW)))), (4, .int .i64 j)]) (fun j _ => []) (fun _ _ => True) () trivial ?_ ?_ ?_
      · rw [e0]
        simp -implicitDefEqProofs only [go_sem, seval] <;> simp
      · intro j _ hj hdj hwj _
        have hm := map_at (c := DueV.cells) r.dues hj
        have hdr := hds _ (List.getElem_mem hj)
        have hli : (j : Int) < (r.dues.length : Int) := by omega
        have hst := dues_step r.dues hj
        have hwl : (spW ((r.dues.take j).flatMap dueW)).length ≤ 88 * 300 := by
          have := duesT_len (r.dues.take j) fun d hd => hds d (List.mem_of_mem_take hd)
          rw [List.length_take] at this; omega
        obtain ⟨d, hd⟩ : ∃ d, d = r.dues[j] := ⟨_, rfl⟩
        rw [← hd] at hm hdr hst
        have hst2 : H ++ spW ((r.dues.take (j + 1)).flatMap dueW) = H ++ spW ((r.dues.take j).flatMap dueW) ++ spW (dueW d) := by rw [hst, spW_app, List.append_assoc]
        have hwt : (H ++ spW ((r.dues.take j).flatMap dueW)).length ≤ 30000 := by rw [List.length_append]; omega
        have hwd : (spW (dueW d)).length ≤ 100 := by
          have := spW_len (dueW d) (dueW_short hdr)
          simp only [dueW, List.length_cons, List.length_nil] at this ⊢; omega
        obtain ⟨W, hW⟩ : ∃ W, W = H ++ spW ((r.dues.take j).flatMap dueW) := ⟨_, rfl⟩
        rw [← hW] at hst2 hwt ⊢
        have hDj := hD d hdr
        simp only [DueV.cells] at hm
        simp -implicitDefEqProofs only [go_sem, seval, List.length_map, hdj, hm, B_mk]
        (with_reducible and_intros)<;>first|exact .dq|omega|skip
        refine CallN.gen [] [] true (by simp) ?_
        simp -implicitDefEqProofs only [go_sem, seval]
        refine CallG.intro hDj ?_
        simp -implicitDefEqProofs only [go_sem, seval, B_app, B_size, List.length_append, hwj]
        (with_reducible and_intros)<;>first|exact .dq|omega|skip
        refine RoundK.step () hj trivial ?_
        rw [hst2]
        simp -implicitDefEqProofs only [go_sem, seval]
      intro _ hdx _
      simp -implicitDefEqProofs only [go_sem, seval, hdx, List.take_length, List.length_map]
      (with_reducible and_intros)<;>first|exact .dq|omega|skip
      have hdl := duesT_len r.dues hds
      obtain ⟨V, hV⟩ : ∃ V, V = H ++ spW (r.dues.flatMap dueW) := ⟨_, rfl⟩
      have hVl : V.length ≤ 30000 := by rw [hV, List.length_append]; omega
      rw [← hV]
      refine LoopK.walk (S := Unit) r.falls.length [1] [32] (fun j _ => [(3, .str (B (V ++ spW ((r.falls.take j).flatMap fallW)))), (5, .int .i64 j)]) (fun j _ => []) (fun _ _ => True) () trivial ?_ ?_ ?_
      · rw [show V ++ spW ((r.falls.take 0).flatMap fallW) = V by simp [spW]]
        simp -implicitDefEqProofs only [go_sem, seval] <;> simp
      · intro j _ hj hdj hwj _
        have hm := map_at (c := FallV.cells) r.falls hj
        have hfr := hfs _ (List.getElem_mem hj)
        have hli : (j : Int) < (r.falls.length : Int) := by omega
        have hst := falls_step r.falls hj
        have hwl : (spW ((r.falls.take j).flatMap fallW)).length ≤ 220 * 300 := by
          have := fallsT_len (r.falls.take j) fun d hd => hfs d (List.mem_of_mem_take hd)
          rw [List.length_take] at this; omega
        obtain ⟨f, hf⟩ : ∃ f, f = r.falls[j] := ⟨_, rfl⟩
        rw [← hf] at hm hfr hst
        have hst2 : V ++ spW ((r.falls.take (j + 1)).flatMap fallW) = V ++ spW ((r.falls.take j).flatMap fallW) ++ fallT f 5 ++ (sRest ++ tailN [f.rest]) := by rw [hst, spW_app, ← fallT_all, List.append_assoc, List.append_assoc]
        have hwt : (V ++ spW ((r.falls.take j).flatMap fallW)).length ≤ 100000 := by rw [List.length_append]; omega
        obtain ⟨W, hW⟩ : ∃ W, W = V ++ spW ((r.falls.take j).flatMap fallW) := ⟨_, rfl⟩
        rw [← hW] at hst2 hwt ⊢
        have hFj := hF f hfr
        have hRj := hR f hfr
        have hNj := hN f hfr
        have hTl := fallT_len f hfr
        have hlr := onel _ hfr.2.2.2.2.2.2.2
        have hrl : (sRest ++ tailN [f.rest]).length ≤ 100 := by rw [List.length_append]; simp only [List.length_cons, List.length_nil]; omega
        have h0 := hTl 0
        have h5 := hTl 5
        simp only [FallV.cells] at hm
        simp -implicitDefEqProofs only [go_sem, seval, List.length_map, hdj, hm, B_mk]
        (with_reducible and_intros)<;>first|exact .dq|omega|skip
        refine CallN.gen [] [] true (by simp) ?_
        simp -implicitDefEqProofs only [go_sem, seval]
        refine CallG.intro hFj ?_
        simp -implicitDefEqProofs only [go_sem, seval, B_app, B_size, List.length_append]
        (with_reducible and_intros)<;>first|exact .dq|omega|skip
        refine LoopK.walk (S := Unit) 5 [1, 5, 6] [32, 112] (fun k _ => [(3, .str (B (W ++ fallT f k))), (7, .int .i64 k)]) (fun _ _ => []) (fun _ _ => True) () trivial ?_ ?_ ?_
        · simp -implicitDefEqProofs only [go_sem, seval] <;> simp
        · intro k _ hk hdk hwk _
          have hk5 : k < 5 := hk
          have hTk := hTl k
          have hNk := hNj k hk5
          have hil := itoa_len [f.c0, f.c1, f.c2, f.c3, f.c4][k] (by
            obtain ⟨g1, g2, g3, g4, g5, g6, g7, g8⟩ := hfr
            rcases (by omega : k = 0 ∨ k = 1 ∨ k = 2 ∨ k = 3 ∨ k = 4) with rfl | rfl | rfl | rfl | rfl <;> assumption)
          have hsk : W ++ fallT f k ++ [32] ++ itoa [f.c0, f.c1, f.c2, f.c3, f.c4][k] = W ++ fallT f (k + 1) := by
            rcases (by omega : k = 0 ∨ k = 1 ∨ k = 2 ∨ k = 3 ∨ k = 4) with rfl | rfl | rfl | rfl | rfl <;> simp [fallT, tailN]
          have hWk : (W ++ fallT f k).length ≤ 100300 := by rw [List.length_append]; omega
          obtain ⟨T, hT⟩ : ∃ T, T = W ++ fallT f k := ⟨_, rfl⟩
          rw [← hT] at hsk hWk ⊢
          clear hT
          rcases (by omega : k = 0 ∨ k = 1 ∨ k = 2 ∨ k = 3 ∨ k = 4) with rfl | rfl | rfl | rfl | rfl
          all_goals
            simp only [List.getElem_cons_zero, List.getElem_cons_succ] at hNk hsk hil
            simp -implicitDefEqProofs only [go_sem, seval, B_mk, B_app, B_size, List.length_append, List.length_cons, List.length_nil]
            (with_reducible and_intros)<;>first|exact .dq|omega|skip
            refine CallN.pure hNk ?_
            simp -implicitDefEqProofs only [go_sem, seval, B_mk, B_app, B_size, hwk, hsk, List.length_append, List.length_cons, List.length_nil]
            (with_reducible and_intros)<;>first|exact .dq|omega|skip
            refine RoundK.step () hk trivial ?_
            simp -implicitDefEqProofs only [go_sem, seval] <;> rfl
        intro _ hdk _
        simp -implicitDefEqProofs only [go_sem, seval, hdk]
        (with_reducible and_intros)<;>first|exact .dq|omega|skip
        refine CallN.gen [] [] true (by simp) ?_
        simp -implicitDefEqProofs only [go_sem, seval]
        refine CallG.intro hRj ?_
        simp -implicitDefEqProofs only [go_sem, seval, B_app, B_size, List.length_append, hwj]
        (with_reducible and_intros)<;>first|exact .dq|omega|skip
        refine RoundK.step () hj trivial ?_
        rw [hst2]
        simp -implicitDefEqProofs only [go_sem, seval]
      intro _ hdx _
      rw [List.take_length]
      simp -implicitDefEqProofs only [go_sem, seval, hdx, List.length_map]
theorem falls_inj : ∀ (a b : List FallV), a.flatMap fallW = b.flatMap fallW → a = b
  | [], [], _ => rfl
  | [], _ :: _, h => by simp [fallW] at h
  | _ :: _, [], h => by simp [fallW] at h
  | f :: a, g :: b, h => by
    simp only [List.flatMap_cons, fallW, List.cons_append, List.nil_append, List.cons.injEq, true_and] at h
    obtain ⟨h1, h2, h3, h4, h5, h6, h7, h8, h9⟩ := h
    have e := falls_inj a b h9
    clear h9
    obtain ⟨f1, f2, f3, f4, f5, f6, f7, f8⟩ := f
    obtain ⟨g1, g2, g3, g4, g5, g6, g7, g8⟩ := g
    replace h1 := itoa_inj h1
    replace h2 := itoa_inj h2
    replace h3 := itoa_inj h3
    replace h4 := itoa_inj h4
    replace h5 := itoa_inj h5
    replace h6 := itoa_inj h6
    replace h7 := itoa_inj h7
    replace h8 := itoa_inj h8
    dsimp only at h1 h2 h3 h4 h5 h6 h7 h8
    subst h1 h2 h3 h4 h5 h6 h7 h8 e
    rfl
theorem dues_inj : ∀ (a b : List DueV) (fa fb : List FallV), a.flatMap dueW ++ fa.flatMap fallW = b.flatMap dueW ++ fb.flatMap fallW → a = b ∧ fa = fb
  | [], [], _, _, h => ⟨rfl, falls_inj _ _ h⟩
  | [], d :: b, [], _, h => by simp [dueW] at h
  | [], d :: b, f :: fa, _, h => by simp [dueW, fallW] at h
  | d :: a, [], _, [], h => by simp [dueW] at h
  | d :: a, [], _, f :: fb, h => by simp [dueW, fallW] at h
  | d :: a, g :: b, fa, fb, h => by
    simp only [List.flatMap_cons, dueW, List.cons_append, List.nil_append, List.cons.injEq, true_and] at h
    obtain ⟨h1, h2, h3, h4⟩ := h
    obtain ⟨e1, e2⟩ := dues_inj a b fa fb h4
    clear h4
    obtain ⟨f1, f2, f3⟩ := d
    obtain ⟨g1, g2, g3⟩ := g
    replace h1 := itoa_inj h1
    replace h2 := itoa_inj h2
    replace h3 := itoa_inj h3
    dsimp only at h1 h2 h3
    subst h1 h2 h3 e1 e2
    exact ⟨rfl, rfl⟩
/-- what a list of words may begin with -/
def begins (l : List (List UInt8)) (ws : List (List UInt8)) : Prop := ∀ w r, l = w :: r → w ∈ ws
theorem rest_begins (ds : List DueV) (fs : List FallV) : begins (ds.flatMap dueW ++ fs.flatMap fallW) [tDue, tFall] := by
  intro w r h
  cases ds with
  | cons d ds => simp only [List.flatMap_cons, dueW, List.cons_append, List.cons.injEq] at h; rw [← h.1]; simp
  | nil =>
    cases fs with
    | cons f fs => simp only [List.flatMap_cons, List.flatMap_nil, List.nil_append, fallW, List.cons_append, List.cons.injEq] at h; rw [← h.1]; simp
    | nil => simp at h
theorem opt_inj {t : List UInt8} {ws : List (List UInt8)} (ht : t ∉ ws) {m n : Int} {a b : List (List UInt8)} (ha : begins a ws) (hb : begins b ws) (h : (if m = 0 then [] else [t, itoa m]) ++ a = (if n = 0 then [] else [t, itoa n]) ++ b) : m = n ∧ a = b := by
  by_cases h1 : m = 0 <;> by_cases h2 : n = 0
  · rw [if_pos h1, if_pos h2] at h
    exact ⟨by omega, h⟩
  · rw [if_pos h1, if_neg h2] at h
    exact absurd (ha t _ h) ht
  · rw [if_neg h1, if_pos h2] at h
    exact absurd (hb t _ h.symm) ht
  · rw [if_neg h1, if_neg h2] at h
    simp only [List.cons_append, List.nil_append, List.cons.injEq, true_and] at h
    exact ⟨itoa_inj h.1, h.2⟩
theorem opt_begins {t : List UInt8} {ws : List (List UInt8)} {m : Int} {a : List (List UInt8)} (ha : begins a ws) : begins ((if m = 0 then [] else [t, itoa m]) ++ a) (t :: ws) := by
  intro w r h
  split at h
  · exact List.mem_cons_of_mem _ (ha w r h)
  · simp only [List.cons_append, List.cons.injEq] at h
    rw [← h.1]; simp
theorem tellW_inj {a b : ReplyV} (h : tellW a = tellW b) : a = b := by
  obtain ⟨a1, a2, a3, a4, a5⟩ := a
  obtain ⟨b1, b2, b3, b4, b5⟩ := b
  simp only [tellW, headW, List.cons_append, List.append_assoc, List.cons.injEq, true_and] at h
  obtain ⟨h1, h⟩ := h
  have ra := rest_begins a4 a5
  have rb := rest_begins b4 b5
  obtain ⟨h2, h⟩ := opt_inj (ws := [tAmount, tDue, tFall]) (by decide) (opt_begins ra) (opt_begins rb) h
  obtain ⟨h3, h⟩ := opt_inj (by decide) ra rb h
  obtain ⟨h4, h5⟩ := dues_inj _ _ _ _ h
  replace h1 := itoa_inj h1
  subst h1 h2 h3 h4 h5
  rfl
theorem tellW_no (r : ReplyV) : ∀ w ∈ tellW r, (32 : UInt8) ∉ w := by
  intro w hw
  simp only [tellW, List.mem_append, List.mem_flatMap] at hw
  rcases hw with (hw | ⟨d, hd, hw⟩) | ⟨f, hf, hw⟩
  · unfold headW at hw
    split at hw <;> split at hw <;> simp at hw <;> (rcases hw with rfl | rfl | rfl | rfl | rfl | rfl <;> first | exact itoa_no _ | decide)
  · simp only [dueW, List.mem_cons, List.not_mem_nil, or_false] at hw
    rcases hw with rfl | rfl | rfl | rfl <;> first | exact itoa_no _ | decide
  · simp only [fallW, List.mem_cons, List.not_mem_nil, or_false] at hw
    rcases hw with rfl | rfl | rfl | rfl | rfl | rfl | rfl | rfl | rfl | rfl <;> first | exact itoa_no _ | decide
theorem tell_inj {a b : ReplyV} (h : joinW (tellW a) = joinW (tellW b)) : a = b := by
  have ha := spl_joinW (tellW a) (by simp [tellW, headW]) (tellW_no a)
  have hb := spl_joinW (tellW b) (by simp [tellW, headW]) (tellW_no b)
  rw [h, hb] at ha
  exact tellW_inj ha.symm
set_option maxRecDepth 8000 in
theorem law_shellTells (a : ReplyV) (ha : a.rngs ∧ a.dues.length < 4611686018427387904 ∧ a.falls.length < 4611686018427387904) (b : ReplyV) (hb : b.rngs ∧ b.dues.length < 4611686018427387904 ∧ b.falls.length < 4611686018427387904) : Abs.Spec Tryd.prog 6 [] [.agg a.cells, .agg b.cells] [] (.bool true) := by
  have hw := wakes28_spec
  by_cases g1 : 300 < a.dues.length
  · have d1 : decide ((300 : Int) < (a.dues.length : Int)) = true := decide_eq_true (by omega)
    simp only [ReplyV.cells]
    refine sgo 39 2 [.tmp 4] mixed Tryd.func6 ?_
    simp -implicitDefEqProofs only [go_sem, seval, List.length_map, d1]
  have d1 : decide ((300 : Int) < (a.dues.length : Int)) = false := decide_eq_false (by omega)
  by_cases g2 : 300 < a.falls.length
  · have d2 : decide ((300 : Int) < (a.falls.length : Int)) = true := decide_eq_true (by omega)
    simp only [ReplyV.cells]
    refine sgo 39 2 [.tmp 4] mixed Tryd.func6 ?_
    simp -implicitDefEqProofs only [go_sem, seval, List.length_map, d1, d2]
  have d2 : decide ((300 : Int) < (a.falls.length : Int)) = false := decide_eq_false (by omega)
  by_cases g3 : 300 < b.dues.length
  · have d3 : decide ((300 : Int) < (b.dues.length : Int)) = true := decide_eq_true (by omega)
    simp only [ReplyV.cells]
    refine sgo 39 2 [.tmp 4] mixed Tryd.func6 ?_
    simp -implicitDefEqProofs only [go_sem, seval, List.length_map, d1, d2, d3]
  have d3 : decide ((300 : Int) < (b.dues.length : Int)) = false := decide_eq_false (by omega)
  by_cases g4 : 300 < b.falls.length
  · have d4 : decide ((300 : Int) < (b.falls.length : Int)) = true := decide_eq_true (by omega)
    simp only [ReplyV.cells]
    refine sgo 39 2 [.tmp 4] mixed Tryd.func6 ?_
    simp -implicitDefEqProofs only [go_sem, seval, List.length_map, d1, d2, d3, d4]
  have d4 : decide ((300 : Int) < (b.falls.length : Int)) = false := decide_eq_false (by omega)
  have hTa := tell_spec a ha.1 (by omega) (by omega)
  have hTb := tell_spec b hb.1 (by omega) (by omega)
  have hK := keepReply_spec a b ha.2.1 ha.2.2
  have hE : (joinW (tellW a) == joinW (tellW b)) = decide (a = b) := by
    rw [Bool.eq_iff_iff]
    simp only [beq_iff_eq, decide_eq_true_eq]
    exact ⟨tell_inj, fun h => by rw [h]⟩
  have hX : (decide (a = b) == decide (a = b)) = true := beq_self_eq_true _
  simp only [ReplyV.cells] at hTa hTb hK ⊢
  refine sgo 39 2 [.tmp 4] mixed Tryd.func6 ?_
  simp -implicitDefEqProofs only [go_sem, seval, List.length_map, d1, d2, d3, d4]
  (with_reducible and_intros)<;>first|exact .dq|omega|skip
  refine CallN.pure hTa ?_
  simp -implicitDefEqProofs only [go_sem, seval]
  (with_reducible and_intros)<;>first|exact .dq|omega|skip
  refine CallN.pure hTb ?_
  simp -implicitDefEqProofs only [go_sem, seval, B_lst, hE]
  (with_reducible and_intros)<;>first|exact .dq|omega|skip
  refine CallN.pure hK ?_
  simp -implicitDefEqProofs only [go_sem, seval, B_lst, hE, hX]
  (with_reducible and_intros)<;>first|exact .dq|omega|skip
  refine CallN.pure hw ?_
  simp -implicitDefEqProofs only [go_sem, seval]
set_option maxRecDepth 8000 in
theorem law_shellLines (x : CmdV) (hx : x.rng) (r : ReplyV) (hr : r.rngs ∧ r.dues.length < 4611686018427387904 ∧ r.falls.length < 4611686018427387904) : Abs.Spec Tryd.prog 7 [] [.agg x.cells, .agg r.cells] [] (.bool true) := by
  have hw := wakes28_spec
  by_cases g1 : 300 < r.dues.length
  · have d1 : decide ((300 : Int) < (r.dues.length : Int)) = true := decide_eq_true (by omega)
    simp only [CmdV.cells, ReplyV.cells]
    refine sgo 55 2 [.tmp 4] mixed Tryd.func7 ?_
    simp -implicitDefEqProofs only [go_sem, seval, List.length_map, d1]
  have d1 : decide ((300 : Int) < (r.dues.length : Int)) = false := decide_eq_false (by omega)
  by_cases g2 : 300 < r.falls.length
  · have d2 : decide ((300 : Int) < (r.falls.length : Int)) = true := decide_eq_true (by omega)
    simp only [CmdV.cells, ReplyV.cells]
    refine sgo 55 2 [.tmp 4] mixed Tryd.func7 ?_
    simp -implicitDefEqProofs only [go_sem, seval, List.length_map, d1, d2]
  have d2 : decide ((300 : Int) < (r.falls.length : Int)) = false := decide_eq_false (by omega)
  have hrx : ∀ o, I64 (x.ns.getD o 0) := cmd_rng hx
  have hT := tell_spec r hr.1 (by omega) (by omega)
  have hU := refTell_spec r hr.1 (by omega) (by omega)
  have hL := line_spec x.ns rfl hrx
  have hM := refLine_spec x hrx
  rw [show ci x.ns = x.cells from rfl] at hL
  obtain ⟨J, hJ⟩ : ∃ J, J = joinW (tellW r) := ⟨_, rfl⟩
  rw [← hJ] at hT hU
  obtain ⟨K, hK⟩ : ∃ K, K = (lineR x.ns).getD [] := ⟨_, rfl⟩
  rw [← hK] at hL hM
  cases q : (lineR x.ns).isSome
  all_goals
    rw [q] at hL hM
    simp only [Bool.false_eq_true, if_false, if_true] at hL
    simp only [CmdV.cells, ReplyV.cells] at hL hM hT hU ⊢
    refine sgo 55 2 [.tmp 4] mixed Tryd.func7 ?_
    simp -implicitDefEqProofs only [go_sem, seval, List.length_map, d1, d2]
    (with_reducible and_intros)<;>first|exact .dq|omega|skip
    refine CallN.pure hL ?_
    simp -implicitDefEqProofs only [go_sem, seval]
    (with_reducible and_intros)<;>first|exact .dq|omega|skip
    refine CallN.pure hM ?_
    simp -implicitDefEqProofs only [go_sem, seval, B_lst, beq_self_eq_true]
    (with_reducible and_intros)<;>first|exact .dq|omega|skip
    refine CallN.pure hT ?_
    simp -implicitDefEqProofs only [go_sem, seval]
    (with_reducible and_intros)<;>first|exact .dq|omega|skip
    refine CallN.pure hU ?_
    simp -implicitDefEqProofs only [go_sem, seval, B_lst, beq_self_eq_true]
    (with_reducible and_intros)<;>first|exact .dq|omega|skip
    refine CallN.pure hw ?_
    simp -implicitDefEqProofs only [go_sem, seval]
end Go.Proofs.YtdklpddmplflgaaDoor
