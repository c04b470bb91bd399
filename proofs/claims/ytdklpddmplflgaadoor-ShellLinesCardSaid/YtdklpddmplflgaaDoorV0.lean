/- Commands, replies as data; whether they are the same; no theorem of a claim. -/
import Derived.Test.YtdklpddmplflgaaDoorB0
import Derived.Test.YtdklpddmplflgaaDoorAbcOpen
import Derived.Test.YtdklpddmplflgaaDoorAbcAuto
import Derived.Test.YtdklpddmplflgaaDoorAbcWalk
set_option linter.unusedSimpArgs false
set_option linter.unusedVariables false
namespace Go.Proofs.YtdklpddmplflgaaDoor
open Go.Abs
def I64 (n : Int) : Prop := -9223372036854775808 ≤ n ∧ n ≤ 9223372036854775807
def ints (xs : List Int) : List (List D) := xs.map fun x => [.int .i64 x]
theorem ints_len (xs : List Int) : (ints xs).length = xs.length := by simp [ints]
theorem ints_at (xs : List Int) {i : Nat} (h : i < xs.length) : (ints xs).getD i [] = [.int .i64 xs[i]] := by simp [ints, h]
theorem map_at {A : Type} {c : A → List D} (xs : List A) {i : Nat} (h : i < xs.length) : (xs.map c).getD i [] = c xs[i] := by simp [h]
structure DueV where
  who : Int
  cur : Int
  amt : Int
deriving DecidableEq
@[reducible] def DueV.cells (x : DueV) : List D := [.int .i64 x.who, .int .i64 x.cur, .int .i64 x.amt]
def DueV.rng (x : DueV) : Prop := I64 x.who ∧ I64 x.cur ∧ I64 x.amt
theorem fit_DueV (r : List D) (h : FitL [.int .i64, .int .i64, .int .i64] r) : ∃ x : DueV, x.rng ∧ r = x.cells := by
  simp only [FitL, Fit] at h
  obtain ⟨_, _, rfl, ⟨a0, rfl, r0⟩, _, _, rfl, ⟨a1, rfl, r1⟩, _, _, rfl, ⟨a2, rfl, r2⟩, rfl⟩ := h
  exact ⟨⟨a0, a1, a2⟩, ⟨r0, r1, r2⟩, rfl⟩
structure FallV where
  cur : Int
  loss : Int
  c0 : Int
  c1 : Int
  c2 : Int
  c3 : Int
  c4 : Int
  rest : Int
deriving DecidableEq
@[reducible] def FallV.cells (x : FallV) : List D := [.int .i64 x.cur, .int .i64 x.loss, .int .i64 x.c0, .int .i64 x.c1, .int .i64 x.c2, .int .i64 x.c3, .int .i64 x.c4, .int .i64 x.rest]
def FallV.rng (x : FallV) : Prop := I64 x.cur ∧ I64 x.loss ∧ I64 x.c0 ∧ I64 x.c1 ∧ I64 x.c2 ∧ I64 x.c3 ∧ I64 x.c4 ∧ I64 x.rest
theorem fit_FallV (r : List D) (h : FitL [.int .i64, .int .i64, .int .i64, .int .i64, .int .i64, .int .i64, .int .i64, .int .i64] r) : ∃ x : FallV, x.rng ∧ r = x.cells := by
  simp only [FitL, Fit] at h
  obtain ⟨_, _, rfl, ⟨a0, rfl, r0⟩, _, _, rfl, ⟨a1, rfl, r1⟩, _, _, rfl, ⟨a2, rfl, r2⟩, _, _, rfl, ⟨a3, rfl, r3⟩, _, _, rfl, ⟨a4, rfl, r4⟩, _, _, rfl, ⟨a5, rfl, r5⟩, _, _, rfl, ⟨a6, rfl, r6⟩, _, _, rfl, ⟨a7, rfl, r7⟩, rfl⟩ := h
  exact ⟨⟨a0, a1, a2, a3, a4, a5, a6, a7⟩, ⟨r0, r1, r2, r3, r4, r5, r6, r7⟩, rfl⟩
structure ReplyV where
  code : Int
  no : Int
  amt : Int
  dues : List DueV
  falls : List FallV
deriving DecidableEq
@[reducible] def ReplyV.cells (x : ReplyV) : List D := [.int .i64 x.code, .int .i64 x.no, .int .i64 x.amt, .sl 3 (x.dues.map DueV.cells), .sl 8 (x.falls.map FallV.cells)]
def ReplyV.rngs (x : ReplyV) : Prop := I64 x.code ∧ I64 x.no ∧ I64 x.amt ∧ (∀ d ∈ x.dues, d.rng) ∧ ∀ f ∈ x.falls, f.rng
theorem fit_reply {ds : List D} (h : FitL [.int .i64, .int .i64, .int .i64, .sl 3 [.int .i64, .int .i64, .int .i64], .sl 8 [.int .i64, .int .i64, .int .i64, .int .i64, .int .i64, .int .i64, .int .i64, .int .i64]] ds) : ∃ x : ReplyV, (x.rngs ∧ x.dues.length < 4611686018427387904 ∧ x.falls.length < 4611686018427387904) ∧ ds = x.cells := by
  obtain ⟨_, _, rfl, ⟨c, rfl, r2⟩, _, _, rfl, ⟨d, rfl, r3⟩, _, _, rfl, ⟨e, rfl, r4⟩, _, _, rfl, ⟨ds, rfl, f5⟩, _, _, rfl, ⟨fs, rfl, f6⟩, rfl⟩ := h
  obtain ⟨b5, f5⟩ := f5
  obtain ⟨b6, f6⟩ := f6
  obtain ⟨ds, rfl, r5⟩ := rows_of (c := DueV.cells) fit_DueV f5
  obtain ⟨fs, rfl, r6⟩ := rows_of (c := FallV.cells) fit_FallV f6
  have e1 : bytesL [.int .i64, .int .i64, .int .i64] = 24 := rfl
  have e2 : bytesL [.int .i64, .int .i64, .int .i64, .int .i64, .int .i64, .int .i64, .int .i64, .int .i64] = 64 := rfl
  have e3 : reachBytes = 140737488351232 := rfl
  rw [e1, e3, List.length_map] at b5
  rw [e2, e3, List.length_map] at b6
  exact ⟨⟨c, d, e, ds, fs⟩, ⟨⟨r2, r3, r4, r5, r6⟩, by simp only; omega, by simp only; omega⟩, rfl⟩
structure CmdV where
  client : Int
  seq : Int
  kind : Int
  who : Int
  other : Int
  no : Int
  inst : Int
  cur : Int
  qty : Int
  price : Int
  amt : Int
  s0 : Int
  s1 : Int
  s2 : Int
  s3 : Int
  s4 : Int
  s5 : Int
deriving DecidableEq
@[reducible] def CmdV.cells (x : CmdV) : List D := [.int .i64 x.client, .int .i64 x.seq, .int .i64 x.kind, .int .i64 x.who, .int .i64 x.other, .int .i64 x.no, .int .i64 x.inst, .int .i64 x.cur, .int .i64 x.qty, .int .i64 x.price, .int .i64 x.amt, .int .i64 x.s0, .int .i64 x.s1, .int .i64 x.s2, .int .i64 x.s3, .int .i64 x.s4, .int .i64 x.s5]
def CmdV.rng (x : CmdV) : Prop := I64 x.client ∧ I64 x.seq ∧ I64 x.kind ∧ I64 x.who ∧ I64 x.other ∧ I64 x.no ∧ I64 x.inst ∧ I64 x.cur ∧ I64 x.qty ∧ I64 x.price ∧ I64 x.amt ∧ I64 x.s0 ∧ I64 x.s1 ∧ I64 x.s2 ∧ I64 x.s3 ∧ I64 x.s4 ∧ I64 x.s5
theorem fit_cmd {r : List D} (h : FitL [.int .i64, .int .i64, .int .i64, .int .i64, .int .i64, .int .i64, .int .i64, .int .i64, .int .i64, .int .i64, .int .i64, .int .i64, .int .i64, .int .i64, .int .i64, .int .i64, .int .i64] r) : ∃ x : CmdV, x.rng ∧ r = x.cells := by
  simp only [FitL, Fit] at h
  obtain ⟨_, _, rfl, ⟨a0, rfl, r0⟩, _, _, rfl, ⟨a1, rfl, r1⟩, _, _, rfl, ⟨a2, rfl, r2⟩, _, _, rfl, ⟨a3, rfl, r3⟩, _, _, rfl, ⟨a4, rfl, r4⟩, _, _, rfl, ⟨a5, rfl, r5⟩, _, _, rfl, ⟨a6, rfl, r6⟩, _, _, rfl, ⟨a7, rfl, r7⟩, _, _, rfl, ⟨a8, rfl, r8⟩, _, _, rfl, ⟨a9, rfl, r9⟩, _, _, rfl, ⟨a10, rfl, r10⟩, _, _, rfl, ⟨a11, rfl, r11⟩, _, _, rfl, ⟨a12, rfl, r12⟩, _, _, rfl, ⟨a13, rfl, r13⟩, _, _, rfl, ⟨a14, rfl, r14⟩, _, _, rfl, ⟨a15, rfl, r15⟩, _, _, rfl, ⟨a16, rfl, r16⟩, rfl⟩ := h
  exact ⟨⟨a0, a1, a2, a3, a4, a5, a6, a7, a8, a9, a10, a11, a12, a13, a14, a15, a16⟩, ⟨r0, r1, r2, r3, r4, r5, r6, r7, r8, r9, r10, r11, r12, r13, r14, r15, r16⟩, rfl⟩
def CmdV.ns (x : CmdV) : List Int := [x.client, x.seq, x.kind, x.who, x.other, x.no, x.inst, x.cur, x.qty, x.price, x.amt, x.s0, x.s1, x.s2, x.s3, x.s4, x.s5]
/-- whole numbers as cells -/
def ci (l : List Int) : List D := l.map fun n => .int .i64 n
theorem CmdV.ci_ns (x : CmdV) : x.cells = ci x.ns := rfl
theorem ext_list {A : Type} {xs ys : List A} (hl : xs.length = ys.length) (h : ∀ j (h1 : j < xs.length) (h2 : j < ys.length), j < xs.length → xs[j] = ys[j]) : xs = ys := List.ext_getElem hl fun j h1 h2 => h j h1 h2 h1
theorem eq_next {A : Type} {xs ys : List A} {i : Nat} (hI : ∀ j (h1 : j < xs.length) (h2 : j < ys.length), j < i → xs[j] = ys[j]) (h1 : i < xs.length) (h2 : i < ys.length) (he : xs[i] = ys[i]) : ∀ j (h1 : j < xs.length) (h2 : j < ys.length), j < i + 1 → xs[j] = ys[j] := by
  intro j a b hj
  rcases Nat.lt_or_ge j i with h | h
  · exact hI j a b h
  · obtain rfl : j = i := by omega
    exact he
theorem keepDue_spec (a b : DueV) : Abs.Spec Tryd.prog 42 [] [.agg a.cells, .agg b.cells] [] (.bool (decide (a = b))) := by
  simp only [DueV.cells]
  refine sgo 24 2 [.tmp 4] mixed Tryd.func42 ?_
  simp only [go_sem, seval]
  repeat' with_reducible first|apply And.intro|exact .dq|refine CallN.pure (by assumption) ?_|refine .splitDN (fun h=>?_) fun h=>?_|refine .splitD (fun h=>?_) fun h=>?_|refine .splitN (fun h=>?_) fun h=>?_|refine .split (fun h=>?_) fun h=>?_|refine .id ?_|refine RoundK.next (by omega) ?_ ?_|exact trivial|simp only [*, go_sem, seval]
  all_goals (rw [Bool.eq_iff_iff]; cases a; cases b; simp_all)
def FallV.ch (x : FallV) : Nat → Int
  | 0 => x.c0 | 1 => x.c1 | 2 => x.c2 | 3 => x.c3 | _ => x.c4
theorem fall_ext {a b : FallV} : a = b ↔ (∀ j < 5, a.ch j = b.ch j) ∧ a.cur = b.cur ∧ a.loss = b.loss ∧ a.rest = b.rest := by
  constructor
  · rintro rfl; simp
  · rintro ⟨h, h1, h2, h3⟩
    have s0 := h 0 (by omega)
    have s1 := h 1 (by omega)
    have s2 := h 2 (by omega)
    have s3 := h 3 (by omega)
    have s4 := h 4 (by omega)
    cases a; cases b
    simp only [FallV.ch] at s0 s1 s2 s3 s4
    simp_all
theorem fall_ch (x : FallV) {i : Nat} (h : i < 5) : (List.drop (2 + i * 1) x.cells).headD .undef = .int .i64 (x.ch i) := by
  rcases i with _ | _ | _ | _ | _ | i <;> first | rfl | omega
theorem keepFall_spec (a b : FallV) : Abs.Spec Tryd.prog 43 [] [.agg a.cells, .agg b.cells] [] (.bool (decide (a = b))) := by
  simp only [FallV.cells]
  refine sgo 38 2 [.tmp 4] mixed Tryd.func43 ?_
  simp only [go_sem, seval]
  refine LoopK.walk (S := Unit) 5 [2, 3] [48, 64] (fun i _ => [(5, .int .i64 i)]) (fun i _ => []) (fun i _ => ∀ j < i, a.ch j = b.ch j) () (by intros; omega) ?_ ?_ ?_
  · simp only [go_sem, seval] <;> simp
  · intro i _ hi hdi hw hI
    have hdi : decide ((i : Int) < 5) = true := hdi
    have ha := fall_ch a hi
    have hb := fall_ch b hi
    simp only [FallV.cells] at ha hb
    simp only [go_sem, seval, hdi, ha, hb]
    (with_reducible and_intros)<;>first|exact .dq|omega|skip
    cases he : a.ch i == b.ch i
    · have hn : decide (a = b) = false := decide_eq_false fun h => by rw [h] at he; simp at he
      simp only [go_sem, seval, bne, he, hn]
    · simp only [go_sem, seval, bne, he, hw]
      refine RoundK.step () hi ?_ ?_
      · intro j hj
        rcases Nat.lt_or_ge j i with h | h
        · exact hI j h
        · obtain rfl : j = i := by omega
          simpa using he
      · simp only [go_sem, seval]
  · intro _ hdx hI
    have hdx : decide ((5 : Int) < 5) = false := hdx
    have e : decide (a = b) = decide (a.cur = b.cur ∧ a.loss = b.loss ∧ a.rest = b.rest) := by
      rw [Bool.eq_iff_iff, decide_eq_true_iff, decide_eq_true_iff, fall_ext]
      exact ⟨fun h => h.2, fun h => ⟨hI, h⟩⟩
    rw [e]
    clear e hI
    simp only [go_sem, seval, hdx]
    repeat' with_reducible first|apply And.intro|exact .dq|refine CallN.pure (by assumption) ?_|refine .splitDN (fun h=>?_) fun h=>?_|refine .splitD (fun h=>?_) fun h=>?_|refine .splitN (fun h=>?_) fun h=>?_|refine .split (fun h=>?_) fun h=>?_|refine .id ?_|refine RoundK.next (by omega) ?_ ?_|exact trivial|simp only [*, go_sem, seval]
    all_goals (rw [Bool.eq_iff_iff]; simp_all)
set_option maxRecDepth 8000 in
theorem keepDues_spec (xs ys : List DueV) (hl : xs.length < 4611686018427387904) : Abs.Spec Tryd.prog 30 [] [.sl 3 (xs.map DueV.cells), .sl 3 (ys.map DueV.cells)] [] (.bool (decide (xs = ys))) := by
  refine sgo 27 2 [.tmp 4] mixed Tryd.func30 ?_
  simp only [go_sem, seval, List.length_map]
  by_cases hlen : xs.length = ys.length
  case neg =>
    have b : ((xs.length : Int) == (ys.length : Int)) = false := by rw [beq_eq_false_iff_ne]; omega
    have e : decide (xs = ys) = false := decide_eq_false fun h => hlen (by rw [h])
    simp only [go_sem, seval, bne, b, e]
  have b : ((xs.length : Int) == (ys.length : Int)) = true := by rw [beq_iff_eq]; omega
  simp only [go_sem, seval, bne, b, List.length_map]
  refine LoopK.walk (S := Unit) xs.length [0, 1] [] (fun i _ => [(5, .int .i64 i)]) (fun i _ => []) (fun i _ => ∀ j (h1 : j < xs.length) (h2 : j < ys.length), j < i → xs[j] = ys[j]) () (by intros; omega) ?_ ?_ ?_
  · simp only [go_sem, seval] <;> simp
  · intro i _ hi hdi hw hI
    have hi2 : i < ys.length := by omega
    have hm := map_at (c := DueV.cells) xs hi
    have hm2 := map_at (c := DueV.cells) ys hi2
    have e0 := eq_next hI hi hi2
    have e1 : xs[i] ≠ ys[i] → decide (xs = ys) = false := fun h => decide_eq_false fun e => h (by subst e; rfl)
    have hl1 : (i : Int) < (xs.length : Int) := by omega
    have hl2 : (i : Int) < (ys.length : Int) := by omega
    obtain ⟨x, hx⟩ : ∃ x, x = xs[i] := ⟨_, rfl⟩
    obtain ⟨y, hy⟩ : ∃ y, y = ys[i] := ⟨_, rfl⟩
    rw [← hx] at hm e0 e1
    rw [← hy] at hm2 e0 e1
    have hc := keepDue_spec x y
    simp only [DueV.cells] at *
    clear hx hy hI hlen
    simp only [go_sem, seval, List.length_map, hdi, hm, hm2]
    repeat' with_reducible first|apply And.intro|exact .dq|refine CallN.pure (by assumption) ?_|refine CallN.pure (hc) ?_|refine .splitDN (fun h=>?_) fun h=>?_|refine .splitD (fun h=>?_) fun h=>?_|refine .splitN (fun h=>?_) fun h=>?_|refine .split (fun h=>?_) fun h=>?_|refine .id ?_|refine RoundK.next (by omega) ?_ ?_|exact trivial|simp only [*, go_sem, seval, hm, hm2, List.length_map]
    all_goals first
      | omega
      | (refine RoundK.step () hi (e0 ?_) ?_
         · clear e0 e1; cases x; cases y; simp_all; done
         · simp only [go_sem, seval])
      | (rw [e1 ?_]; clear e0 e1; cases x; cases y; simp_all; done)
  · intro _ hdx hI
    have e : decide (xs = ys) = true := decide_eq_true (ext_list hlen hI)
    simp only [go_sem, seval, List.length_map, hdx, e]
set_option maxRecDepth 8000 in
theorem keepFalls_spec (xs ys : List FallV) (hl : xs.length < 4611686018427387904) : Abs.Spec Tryd.prog 31 [] [.sl 8 (xs.map FallV.cells), .sl 8 (ys.map FallV.cells)] [] (.bool (decide (xs = ys))) := by
  refine sgo 27 2 [.tmp 4] mixed Tryd.func31 ?_
  simp only [go_sem, seval, List.length_map]
  by_cases hlen : xs.length = ys.length
  case neg =>
    have b : ((xs.length : Int) == (ys.length : Int)) = false := by rw [beq_eq_false_iff_ne]; omega
    have e : decide (xs = ys) = false := decide_eq_false fun h => hlen (by rw [h])
    simp only [go_sem, seval, bne, b, e]
  have b : ((xs.length : Int) == (ys.length : Int)) = true := by rw [beq_iff_eq]; omega
  simp only [go_sem, seval, bne, b, List.length_map]
  refine LoopK.walk (S := Unit) xs.length [0, 1] [] (fun i _ => [(5, .int .i64 i)]) (fun i _ => []) (fun i _ => ∀ j (h1 : j < xs.length) (h2 : j < ys.length), j < i → xs[j] = ys[j]) () (by intros; omega) ?_ ?_ ?_
  · simp only [go_sem, seval] <;> simp
  · intro i _ hi hdi hw hI
    have hi2 : i < ys.length := by omega
    have hm := map_at (c := FallV.cells) xs hi
    have hm2 := map_at (c := FallV.cells) ys hi2
    have e0 := eq_next hI hi hi2
    have e1 : xs[i] ≠ ys[i] → decide (xs = ys) = false := fun h => decide_eq_false fun e => h (by subst e; rfl)
    have hl1 : (i : Int) < (xs.length : Int) := by omega
    have hl2 : (i : Int) < (ys.length : Int) := by omega
    obtain ⟨x, hx⟩ : ∃ x, x = xs[i] := ⟨_, rfl⟩
    obtain ⟨y, hy⟩ : ∃ y, y = ys[i] := ⟨_, rfl⟩
    rw [← hx] at hm e0 e1
    rw [← hy] at hm2 e0 e1
    have hc := keepFall_spec x y
    simp only [FallV.cells] at *
    clear hx hy hI hlen
    simp only [go_sem, seval, List.length_map, hdi, hm, hm2]
    repeat' with_reducible first|apply And.intro|exact .dq|refine CallN.pure (by assumption) ?_|refine CallN.pure (hc) ?_|refine .splitDN (fun h=>?_) fun h=>?_|refine .splitD (fun h=>?_) fun h=>?_|refine .splitN (fun h=>?_) fun h=>?_|refine .split (fun h=>?_) fun h=>?_|refine .id ?_|refine RoundK.next (by omega) ?_ ?_|exact trivial|simp only [*, go_sem, seval, hm, hm2, List.length_map]
    all_goals first
      | omega
      | (refine RoundK.step () hi (e0 ?_) ?_
         · clear e0 e1; cases x; cases y; simp_all; done
         · simp only [go_sem, seval])
      | (rw [e1 ?_]; clear e0 e1; cases x; cases y; simp_all; done)
  · intro _ hdx hI
    have e : decide (xs = ys) = true := decide_eq_true (ext_list hlen hI)
    simp only [go_sem, seval, List.length_map, hdx, e]
theorem keepReply_spec (a b : ReplyV) (h1 : a.dues.length < 4611686018427387904) (h2 : a.falls.length < 4611686018427387904) : Abs.Spec Tryd.prog 15 [] [.agg a.cells, .agg b.cells] [] (.bool (decide (a = b))) := by
  have c1 := keepDues_spec a.dues b.dues h1
  have c2 := keepFalls_spec a.falls b.falls h2
  simp only [ReplyV.cells]
  refine sgo 38 2 [.tmp 4] mixed Tryd.func15 ?_
  simp only [go_sem, seval]
  repeat' with_reducible first|apply And.intro|exact .dq|refine CallN.pure (by assumption) ?_|refine CallN.pure (c1) ?_|refine CallN.pure (c2) ?_|refine .splitDN (fun h=>?_) fun h=>?_|refine .splitD (fun h=>?_) fun h=>?_|refine .splitN (fun h=>?_) fun h=>?_|refine .split (fun h=>?_) fun h=>?_|refine .id ?_|refine RoundK.next (by omega) ?_ ?_|exact trivial|simp only [*, go_sem, seval]
  all_goals (rw [Bool.eq_iff_iff]; cases a; cases b; simp_all)
def namesT : List ByteArray := [⟨#[]⟩, ⟨#[119, 97]⟩, ⟨#[105, 99, 113, 97, 115]⟩, ⟨#[110, 99, 112, 97]⟩, ⟨#[119, 99, 97]⟩, ⟨#[119, 99, 97]⟩, ⟨#[119, 110, 113]⟩, ⟨#[119, 110, 113]⟩, ⟨#[119, 99, 97]⟩, ⟨#[99, 97]⟩, ⟨#[119, 111, 105, 113, 112]⟩, ⟨#[110]⟩, ⟨#[110, 113, 112]⟩, ⟨#[105, 112]⟩, ⟨#[]⟩, ⟨#[]⟩, ⟨#[]⟩, ⟨#[97]⟩, ⟨#[119, 105, 111, 113, 112]⟩, ⟨#[119]⟩, ⟨#[]⟩, ⟨#[110, 119, 99]⟩, ⟨#[119, 105]⟩]
def namesB (k : Int) : ByteArray := namesT.getD k.toNat ⟨#[]⟩
set_option maxHeartbeats 2000000 in
theorem ref25Names_spec (k : Int) (h : 1 ≤ k ∧ k ≤ 22) : Abs.Spec Tryd.prog 25 [] [.int .i64 k] [] (.str (namesB k)) := by
  have hk : k = 1 ∨ k = 2 ∨ k = 3 ∨ k = 4 ∨ k = 5 ∨ k = 6 ∨ k = 7 ∨ k = 8 ∨ k = 9 ∨ k = 10 ∨ k = 11 ∨ k = 12 ∨ k = 13 ∨ k = 14 ∨ k = 15 ∨ k = 16 ∨ k = 17 ∨ k = 18 ∨ k = 19 ∨ k = 20 ∨ k = 21 ∨ k = 22 := by omega
  clear h
  rcases hk with rfl | rfl | rfl | rfl | rfl | rfl | rfl | rfl | rfl | rfl | rfl | rfl | rfl | rfl | rfl | rfl | rfl | rfl | rfl | rfl | rfl | rfl
  · refine sgo 17 1 [.tmp 2] mixed Tryd.func25 ?_
    simp only [go_sem, seval]
    exact (rfl : (⟨#[119, 97]⟩ : ByteArray) = namesB 1)
  · refine sgo 17 1 [.tmp 2] mixed Tryd.func25 ?_
    simp only [go_sem, seval]
    exact (rfl : (⟨#[105, 99, 113, 97, 115]⟩ : ByteArray) = namesB 2)
  · refine sgo 17 1 [.tmp 2] mixed Tryd.func25 ?_
    simp only [go_sem, seval]
    exact (rfl : (⟨#[110, 99, 112, 97]⟩ : ByteArray) = namesB 3)
  · refine sgo 17 1 [.tmp 2] mixed Tryd.func25 ?_
    simp only [go_sem, seval]
    exact (rfl : (⟨#[119, 99, 97]⟩ : ByteArray) = namesB 4)
  · refine sgo 17 1 [.tmp 2] mixed Tryd.func25 ?_
    simp only [go_sem, seval]
    exact (rfl : (⟨#[119, 99, 97]⟩ : ByteArray) = namesB 5)
  · refine sgo 17 1 [.tmp 2] mixed Tryd.func25 ?_
    simp only [go_sem, seval]
    exact (rfl : (⟨#[119, 110, 113]⟩ : ByteArray) = namesB 6)
  · refine sgo 17 1 [.tmp 2] mixed Tryd.func25 ?_
    simp only [go_sem, seval]
    exact (rfl : (⟨#[119, 110, 113]⟩ : ByteArray) = namesB 7)
  · refine sgo 17 1 [.tmp 2] mixed Tryd.func25 ?_
    simp only [go_sem, seval]
    exact (rfl : (⟨#[119, 99, 97]⟩ : ByteArray) = namesB 8)
  · refine sgo 17 1 [.tmp 2] mixed Tryd.func25 ?_
    simp only [go_sem, seval]
    exact (rfl : (⟨#[99, 97]⟩ : ByteArray) = namesB 9)
  · refine sgo 17 1 [.tmp 2] mixed Tryd.func25 ?_
    simp only [go_sem, seval]
    exact (rfl : (⟨#[119, 111, 105, 113, 112]⟩ : ByteArray) = namesB 10)
  · refine sgo 17 1 [.tmp 2] mixed Tryd.func25 ?_
    simp only [go_sem, seval]
    exact (rfl : (⟨#[110]⟩ : ByteArray) = namesB 11)
  · refine sgo 17 1 [.tmp 2] mixed Tryd.func25 ?_
    simp only [go_sem, seval]
    exact (rfl : (⟨#[110, 113, 112]⟩ : ByteArray) = namesB 12)
  · refine sgo 17 1 [.tmp 2] mixed Tryd.func25 ?_
    simp only [go_sem, seval]
    exact (rfl : (⟨#[105, 112]⟩ : ByteArray) = namesB 13)
  · refine sgo 17 1 [.tmp 2] mixed Tryd.func25 ?_
    simp only [go_sem, seval]
    exact (rfl : (⟨#[]⟩ : ByteArray) = namesB 14)
  · refine sgo 17 1 [.tmp 2] mixed Tryd.func25 ?_
    simp only [go_sem, seval]
    exact (rfl : (⟨#[]⟩ : ByteArray) = namesB 15)
  · refine sgo 17 1 [.tmp 2] mixed Tryd.func25 ?_
    simp only [go_sem, seval]
    exact (rfl : (⟨#[]⟩ : ByteArray) = namesB 16)
  · refine sgo 17 1 [.tmp 2] mixed Tryd.func25 ?_
    simp only [go_sem, seval]
    exact (rfl : (⟨#[97]⟩ : ByteArray) = namesB 17)
  · refine sgo 17 1 [.tmp 2] mixed Tryd.func25 ?_
    simp only [go_sem, seval]
    exact (rfl : (⟨#[119, 105, 111, 113, 112]⟩ : ByteArray) = namesB 18)
  · refine sgo 17 1 [.tmp 2] mixed Tryd.func25 ?_
    simp only [go_sem, seval]
    exact (rfl : (⟨#[119]⟩ : ByteArray) = namesB 19)
  · refine sgo 17 1 [.tmp 2] mixed Tryd.func25 ?_
    simp only [go_sem, seval]
    exact (rfl : (⟨#[]⟩ : ByteArray) = namesB 20)
  · refine sgo 17 1 [.tmp 2] mixed Tryd.func25 ?_
    simp only [go_sem, seval]
    exact (rfl : (⟨#[110, 119, 99]⟩ : ByteArray) = namesB 21)
  · refine sgo 17 1 [.tmp 2] mixed Tryd.func25 ?_
    simp only [go_sem, seval]
    exact (rfl : (⟨#[119, 105]⟩ : ByteArray) = namesB 22)
def fieldV (c : CmdV) (b : Int) : Int := if b = 119 then c.who else if b = 111 then c.other else if b = 110 then c.no else if b = 105 then c.inst else if b = 99 then c.cur else if b = 113 then c.qty else if b = 112 then c.price else c.amt
theorem ref25Field_spec (c : CmdV) (b : Int) : Abs.Spec Tryd.prog 34 [] [.agg c.cells, .int .u8 b] [] (.int .i64 (fieldV c b)) := by
  simp only [CmdV.cells]
  unfold fieldV
  refine sgo 36 2 [.tmp 4] mixed Tryd.func34 ?_
  simp only [go_sem, seval]
  (with_reducible and_intros)<;>first|exact .dq|omega|skip
  by_cases q0 : b = 119
  · have d : (b == 119) = true := by simpa using q0
    simp only [go_sem, seval, d, if_pos q0]
  have d0 : (b == 119) = false := by simpa using q0
  simp only [go_sem, seval, d0]
  by_cases q1 : b = 111
  · have d : (b == 111) = true := by simpa using q1
    simp only [go_sem, seval, d, if_pos q1, if_neg q0]
  have d1 : (b == 111) = false := by simpa using q1
  simp only [go_sem, seval, d1]
  by_cases q2 : b = 110
  · have d : (b == 110) = true := by simpa using q2
    simp only [go_sem, seval, d, if_pos q2, if_neg q0, if_neg q1]
  have d2 : (b == 110) = false := by simpa using q2
  simp only [go_sem, seval, d2]
  by_cases q3 : b = 105
  · have d : (b == 105) = true := by simpa using q3
    simp only [go_sem, seval, d, if_pos q3, if_neg q0, if_neg q1, if_neg q2]
  have d3 : (b == 105) = false := by simpa using q3
  simp only [go_sem, seval, d3]
  by_cases q4 : b = 99
  · have d : (b == 99) = true := by simpa using q4
    simp only [go_sem, seval, d, if_pos q4, if_neg q0, if_neg q1, if_neg q2, if_neg q3]
  have d4 : (b == 99) = false := by simpa using q4
  simp only [go_sem, seval, d4]
  by_cases q5 : b = 113
  · have d : (b == 113) = true := by simpa using q5
    simp only [go_sem, seval, d, if_pos q5, if_neg q0, if_neg q1, if_neg q2, if_neg q3, if_neg q4]
  have d5 : (b == 113) = false := by simpa using q5
  simp only [go_sem, seval, d5]
  by_cases q6 : b = 112
  · have d : (b == 112) = true := by simpa using q6
    simp only [go_sem, seval, d, if_pos q6, if_neg q0, if_neg q1, if_neg q2, if_neg q3, if_neg q4, if_neg q5]
  have d6 : (b == 112) = false := by simpa using q6
  simp only [go_sem, seval, d6, if_neg q0, if_neg q1, if_neg q2, if_neg q3, if_neg q4, if_neg q5, if_neg q6]
end Go.Proofs.YtdklpddmplflgaaDoor
