/- The reference's margin. The reference's margin: the whole. Twins of states. A ledger in which something was paid. What a member lacks. The law CoverShorts. The reference's ledgers. The reference's ledgers: the whole. No theorem of a claim. -/
import Derived.Test.YtbllopdcbkeadaaGreatKE
set_option linter.unusedSimpArgs false
set_option linter.unusedVariables false
namespace Go.Proofs.YtbllopdcbkeadaaGreat
open Go.Abs
end Go.Proofs.YtbllopdcbkeadaaGreat
set_option linter.unusedSimpArgs false
set_option linter.unusedVariables false
namespace Go.Proofs.YtbllopdcbkeadaaGreat
open Go.Abs
end Go.Proofs.YtbllopdcbkeadaaGreat
set_option linter.unusedSimpArgs false
set_option linter.unusedVariables false
namespace Go.Proofs.YtbllopdcbkeadaaGreat
open Go.Abs
theorem Spec.frozen {P : Program} {f : FuncId} {ds hs' : List D} {d : D} (h : Abs.Spec P f [] ds hs' d) (fz : List Nat) {hs2 : List D} {d2 : D} (hd : (frzEL fz (mkE [(0, d)] (osL 0 hs'))).t 0 = d2) (ho : ∀ r, (frzEL fz (mkE [(0, d)] (osL 0 hs'))).o r = hs2.getD r .undef) : Abs.Spec P f [] ds hs2 d2 := by
  refine ⟨h.1, ?_⟩
  intro w l0 G0 own0 S0 vs hl0 hG hsz hr hobj
  refine (h.2 w l0 G0 own0 S0 vs hl0 hG hsz hr hobj).mono ?_
  rintro e w' ⟨v, rfl, o⟩
  refine ⟨v, rfl, o.os, o.tape, o.output, o.size, o.old, o.part, ?_⟩
  obtain ⟨lev, own, S, h1, h2, h3, h4, _⟩ := o.rep
  have hi : Inv w l0 G0 S w' lev own S (mkE [(0, d)] (osL 0 hs')) (fun j => if j = 0 then v else Go.undef) := by
    refine ⟨o.os, o.tape, o.output, o.size, o.old, o.part, h1, h2, fun _ _ _ => rfl, ?_, ?_⟩
    · intro s
      show RepV _ _ (Abs.look [(0, d)] s)
      by_cases hs : s = 0
      · subst hs; simpa [Abs.look] using h3
      · simp only [Abs.look, if_neg hs]; exact .undef _
    · intro r
      show ObjAt _ _ _ _ _ _ r (Abs.look (osL 0 hs') r)
      rw [osL_look]
      simpa using h4 r
  obtain ⟨lev', S', hi'⟩ := Inv.frzL fz hi (fun _ _ => trivial)
  refine ⟨lev', own, S', hi'.priv, hi'.levOld, ?_, ?_, fun i h => by cases h⟩
  · have := hi'.temps 0
    rw [hd] at this
    simpa using this
  · intro r
    have := hi'.objs r
    rwa [ho] at this
def RollV.tiny (r : RollV) : Prop := r.ms.length < 2 ^ 30 ∧ r.ns.length < 2 ^ 30 ∧ r.xs.length < 2 ^ 30
theorem RollV.tiny.small {r : RollV} (h : r.tiny) : r.small := ⟨by have := h.1; omega, by have := h.2.1; omega, by have := h.2.2; omega⟩
theorem twinRoll_spec (r : RollV) (hr : r.tiny) : Abs.Spec Tryz.prog 30 [] [.agg r.cells] [.own 3 (r.ms.map MemberV.cells), .own 12 (r.ns.map InstV.cells), .own 4 (r.xs.map AssetV.cells)] (.agg [.ref 0, .ref 1, .ref 2]) := by
  obtain ⟨l1, l2, l3⟩ := hr
  simp only [RollV.cells]
  refine Abs.Spec.go (n := 23) (np := 1) (rs := [.cell 2 28]) mixed Tryz.func30 rfl rfl rfl rfl rfl (by simp) (by simp) ?_
  simp only [go_sem, Nat.reduceAdd, Nat.reduceSub, Nat.reduceMul, Nat.reduceEqDiff, Nat.reduceLT, Nat.reduceLeDiff, Nat.reduceBEq, Int.reduceToNat, Int.reduceLT, Int.reduceLE, Int.reduceBEq, ↓reduceIte, List.length_map]
  omega
theorem twinBook_spec (b : BookV) (hb : b.small) : Abs.Spec Tryz.prog 31 [] [.agg b.cells] [.own 7 (b.ts.map TradeV.cells), .own 4 (b.qs.map PosV.cells)] (.agg [.int .i64 b.next, .ref 0, .ref 1]) := by
  obtain ⟨l1, l2⟩ := hb
  simp only [BookV.cells]
  refine Abs.Spec.go (n := 20) (np := 1) (rs := [.cell 2 32]) mixed Tryz.func31 rfl rfl rfl rfl rfl (by simp) (by simp) ?_
  simp only [go_sem, Nat.reduceAdd, Nat.reduceSub, Nat.reduceMul, Nat.reduceEqDiff, Nat.reduceLT, Nat.reduceLeDiff, Nat.reduceBEq, Int.reduceToNat, Int.reduceLT, Int.reduceLE, Int.reduceBEq, ↓reduceIte, List.length_map]
  omega
theorem twinLed_spec (l : LedV) (hl : l.bs.length < 2 ^ 30) : Abs.Spec Tryz.prog 32 [] [.agg l.cells] [.own 4 (l.bs.map BalV.cells)] (.agg [.int .i64 l.last, .ref 0]) := by
  simp only [LedV.cells]
  refine Abs.Spec.go (n := 14) (np := 1) (rs := [.cell 2 35]) mixed Tryz.func32 rfl rfl rfl rfl rfl (by simp) (by simp) ?_
  simp only [go_sem, Nat.reduceAdd, Nat.reduceSub, Nat.reduceMul, Nat.reduceEqDiff, Nat.reduceLT, Nat.reduceLeDiff, Nat.reduceBEq, Int.reduceToNat, Int.reduceLT, Int.reduceLE, Int.reduceBEq, ↓reduceIte, List.length_map]
  omega
theorem twinReply_spec (x : ReplyV) (h : x.fits) : Abs.Spec Tryz.prog 33 [] [.agg x.cells] [.own 3 (x.dues.map DueV.cells), .own 8 (x.falls.map FallV.cells)] (.agg [.int .i64 x.code, .int .i64 x.no, .int .i64 x.amt, .ref 0, .ref 1]) := by
  obtain ⟨h1, h2⟩ := h
  simp only [ReplyV.cells]
  refine Abs.Spec.go (n := 24) (np := 1) (rs := [.cell 2 67]) mixed Tryz.func33 rfl rfl rfl rfl rfl (by simp) (by simp) ?_
  simp only [go_sem, Nat.reduceAdd, Nat.reduceSub, Nat.reduceMul, Nat.reduceEqDiff, Nat.reduceLT, Nat.reduceLeDiff, Nat.reduceBEq, Int.reduceToNat, Int.reduceLT, Int.reduceLE, Int.reduceBEq, ↓reduceIte, List.length_map]
  omega
theorem twinReply_frozen (x : ReplyV) (h : x.fits) : Abs.Spec Tryz.prog 33 [] [.agg x.cells] [] (.agg x.cells) := by
  refine Spec.frozen (twinReply_spec x h) [0, 1] ?_ ?_
  · simp only [ReplyV.cells]
    rfl
  · intro r
    rcases r with _ | _ | r
    · rfl
    · rfl
    · rfl
structure StateV.small (s : StateV) : Prop where
  roll : s.roll.tiny
  book : s.book.small
  led : s.led.bs.length < 2 ^ 30
  ps : s.ps.length < 2 ^ 30
  calls : s.calls.length < 2 ^ 30
  bids : s.bids.length < 2 ^ 30
  seats : s.seats.length < 2 ^ 30
  rs : ∀ x ∈ s.seats, x.r.fits
def stRefs (s : StateV) : List D := [.int .i64 s.now, .int .i64 s.day, .int .i64 s.phase, .ref 0, .ref 1, .ref 2, .int .i64 s.book.next, .ref 3, .ref 4, .int .i64 s.led.last, .ref 5, .ref 6, .ref 7, .ref 8, .ref 9]
def stOwn (s : StateV) : List D := [.own 3 (s.roll.ms.map MemberV.cells), .own 12 (s.roll.ns.map InstV.cells), .own 4 (s.roll.xs.map AssetV.cells), .own 7 (s.book.ts.map TradeV.cells), .own 4 (s.book.qs.map PosV.cells), .own 4 (s.led.bs.map BalV.cells), .own 3 (pl s.ps), .own 4 (s.calls.map CallV.cells), .own 5 (s.bids.map BidV.cells), .own 7 (s.seats.map SeatV.cells)]
set_option maxRecDepth 8000 in
theorem twinState_spec (s : StateV) (hs : s.small) : Abs.Spec Tryz.prog 7 [] [.agg s.cells] (stOwn s) (.agg (stRefs s)) := by
  have h1 := twinRoll_spec s.roll hs.roll
  have h2 := twinBook_spec s.book hs.book
  have h3 := twinLed_spec s.led hs.led
  have e1 := hs.ps
  have e2 := hs.calls
  have e3 := hs.bids
  have e4 := hs.seats
  simp only [RollV.cells] at h1
  simp only [BookV.cells] at h2
  simp only [LedV.cells] at h3
  simp only [StateV.cells, stOwn, stRefs]
  refine Abs.Spec.go (n := 68) (np := 1) (rs := [.cell 2 41]) mixed Tryz.func7 rfl rfl rfl rfl rfl (by simp) (by simp) ?_
  simp only [go_sem, Nat.reduceAdd, Nat.reduceSub, Nat.reduceMul, Nat.reduceEqDiff, Nat.reduceLT, Nat.reduceLeDiff, Nat.reduceBEq, Int.reduceToNat, Int.reduceLT, Int.reduceLE, Int.reduceBEq, ↓reduceIte]
  (repeat' (with_reducible first | refine And.intro ?_ ?_ | exact DrawN.mk (by kernel_rfl) | exact OkN.mk (by kernel_rfl))) <;> try omega
  refine CallN.gen [] [] false (by simp) ?_
  simp only [go_sem, Nat.reduceAdd, Nat.reduceSub, Nat.reduceMul, Nat.reduceEqDiff, Nat.reduceLT, Nat.reduceLeDiff, Nat.reduceBEq, Int.reduceToNat, Int.reduceLT, Int.reduceLE, Int.reduceBEq, ↓reduceIte]
  refine CallG.intro h1 ?_
  simp only [go_sem, Nat.reduceAdd, Nat.reduceSub, Nat.reduceMul, Nat.reduceEqDiff, Nat.reduceLT, Nat.reduceLeDiff, Nat.reduceBEq, Int.reduceToNat, Int.reduceLT, Int.reduceLE, Int.reduceBEq, ↓reduceIte]
  (repeat' (with_reducible first | refine And.intro ?_ ?_ | exact DrawN.mk (by kernel_rfl) | exact OkN.mk (by kernel_rfl))) <;> try omega
  refine CallN.gen [] [] false (by simp) ?_
  simp only [go_sem, Nat.reduceAdd, Nat.reduceSub, Nat.reduceMul, Nat.reduceEqDiff, Nat.reduceLT, Nat.reduceLeDiff, Nat.reduceBEq, Int.reduceToNat, Int.reduceLT, Int.reduceLE, Int.reduceBEq, ↓reduceIte]
  refine CallG.intro h2 ?_
  simp only [go_sem, Nat.reduceAdd, Nat.reduceSub, Nat.reduceMul, Nat.reduceEqDiff, Nat.reduceLT, Nat.reduceLeDiff, Nat.reduceBEq, Int.reduceToNat, Int.reduceLT, Int.reduceLE, Int.reduceBEq, ↓reduceIte]
  (repeat' (with_reducible first | refine And.intro ?_ ?_ | exact DrawN.mk (by kernel_rfl) | exact OkN.mk (by kernel_rfl))) <;> try omega
  refine CallN.gen [] [] false (by simp) ?_
  simp only [go_sem, Nat.reduceAdd, Nat.reduceSub, Nat.reduceMul, Nat.reduceEqDiff, Nat.reduceLT, Nat.reduceLeDiff, Nat.reduceBEq, Int.reduceToNat, Int.reduceLT, Int.reduceLE, Int.reduceBEq, ↓reduceIte]
  refine CallG.intro h3 ?_
  simp only [go_sem, Nat.reduceAdd, Nat.reduceSub, Nat.reduceMul, Nat.reduceEqDiff, Nat.reduceLT, Nat.reduceLeDiff, Nat.reduceBEq, Int.reduceToNat, Int.reduceLT, Int.reduceLE, Int.reduceBEq, ↓reduceIte, List.length_map]
  (repeat' (with_reducible first | refine And.intro ?_ ?_ | exact DrawN.mk (by kernel_rfl) | exact OkN.mk (by kernel_rfl))) <;> try omega
  refine LoopK.walk (S := Unit) s.seats.length [1, 2, 3] [32, 48, 160, 161, 162, 208, 209, 256, 352, 448, 544] (fun i _ => [(4, .int .i64 i)])
    (fun i _ => [(64, .box [.int .i64 s.now, .int .i64 s.day, .int .i64 s.phase, .ref 160, .ref 161, .ref 162, .int .i64 s.book.next, .ref 208, .ref 209, .int .i64 s.led.last, .ref 256, .ref 352, .ref 448, .ref 544, .ref 1056]), (1056, .own 7 ((s.seats.take i).map SeatV.cells))]) (fun _ _ => True) () (by simp only [go_sem, Nat.reduceAdd, Nat.reduceSub, Nat.reduceMul, Nat.reduceEqDiff, Nat.reduceLT, Nat.reduceLeDiff, Nat.reduceBEq, Int.reduceToNat, Int.reduceLT, Int.reduceLE, Int.reduceBEq, ↓reduceIte] <;> exact rfl) (by simp only [go_sem, Nat.reduceAdd, Nat.reduceSub, Nat.reduceMul, Nat.reduceEqDiff, Nat.reduceLT, Nat.reduceLeDiff, Nat.reduceBEq, Int.reduceToNat, Int.reduceLT, Int.reduceLE, Int.reduceBEq, ↓reduceIte] <;> exact rfl) trivial ?_ ?_ ?_
  · simp only [go_sem, Nat.reduceAdd, Nat.reduceSub, Nat.reduceMul, Nat.reduceEqDiff, Nat.reduceLT, Nat.reduceLeDiff, Nat.reduceBEq, Int.reduceToNat, Int.reduceLT, Int.reduceLE, Int.reduceBEq, ↓reduceIte] <;> simp
  · intro i _ hi hdi hwi _
    have hm := map_at (c := SeatV.cells) s.seats hi
    have hr := twinReply_frozen s.seats[i].r (hs.rs _ (List.getElem_mem hi))
    have hnext : (s.seats.take (i + 1)).map SeatV.cells = (s.seats.take i).map SeatV.cells ++ [s.seats[i].cells] := by
      rw [List.take_succ_eq_append_getElem hi, List.map_append, List.map_cons, List.map_nil]
    have hlt : ((s.seats.take i).map SeatV.cells).length = i := by simp; omega
    simp only [SeatV.cells] at hm
    simp only [ReplyV.cells] at hr
    simp only [go_sem, Nat.reduceAdd, Nat.reduceSub, Nat.reduceMul, Nat.reduceEqDiff, Nat.reduceLT, Nat.reduceLeDiff, Nat.reduceBEq, Int.reduceToNat, Int.reduceLT, Int.reduceLE, Int.reduceBEq, ↓reduceIte, hdi, hm, List.length_map]
    (repeat' (with_reducible first | refine And.intro ?_ ?_ | exact DrawN.mk (by kernel_rfl) | exact OkN.mk (by kernel_rfl))) <;> try omega
    refine CallN.pure hr ?_
    simp only [go_sem, Nat.reduceAdd, Nat.reduceSub, Nat.reduceMul, Nat.reduceEqDiff, Nat.reduceLT, Nat.reduceLeDiff, Nat.reduceBEq, Int.reduceToNat, Int.reduceLT, Int.reduceLE, Int.reduceBEq, ↓reduceIte, hwi, hlt]
    (repeat' (with_reducible first | refine And.intro ?_ ?_ | exact DrawN.mk (by kernel_rfl) | exact OkN.mk (by kernel_rfl))) <;> try omega
    refine RoundK.step () hi trivial ?_
    simp only [go_sem, Nat.reduceAdd, Nat.reduceSub, Nat.reduceMul, Nat.reduceEqDiff, Nat.reduceLT, Nat.reduceLeDiff, Nat.reduceBEq, Int.reduceToNat, Int.reduceLT, Int.reduceLE, Int.reduceBEq, ↓reduceIte, hnext, SeatV.cells]
  · intro _ hdx _
    have ht : (s.seats.take s.seats.length).map SeatV.cells = s.seats.map SeatV.cells := by rw [List.take_length]
    simp only [go_sem, Nat.reduceAdd, Nat.reduceSub, Nat.reduceMul, Nat.reduceEqDiff, Nat.reduceLT, Nat.reduceLeDiff, Nat.reduceBEq, Int.reduceToNat, Int.reduceLT, Int.reduceLE, Int.reduceBEq, ↓reduceIte, hdx, List.length_map, ht]
end Go.Proofs.YtbllopdcbkeadaaGreat
set_option linter.unusedSimpArgs false
set_option linter.unusedVariables false
namespace Go.Proofs.YtbllopdcbkeadaaGreat
open Go.Abs
def AcctV.same (x y : AcctV) : Bool := x.kind == y.kind && (x.who == y.who && x.cur == y.cur)
theorem keepAcct_spec (x y : AcctV) : Abs.Spec Tryz.prog 138 [] [.agg x.cells, .agg y.cells] [] (.bool (x.same y)) := by
  simp only [AcctV.cells]
  refine Abs.Spec.go (n := 24) (np := 2) (rs := [.tmp 4]) mixed Tryz.func138 rfl rfl rfl rfl rfl (by simp) (by simp) ?_
  simp only [go_sem, Nat.reduceAdd, Nat.reduceSub, Nat.reduceMul, Nat.reduceEqDiff, Nat.reduceLT, Nat.reduceLeDiff, Nat.reduceBEq, Int.reduceToNat, Int.reduceLT, Int.reduceLE, Int.reduceBEq, ↓reduceIte]
  repeat' (with_reducible first
      | refine And.intro ?_ ?_
      | exact DrawN.mk (by kernel_rfl)
      | exact OkN.mk (by kernel_rfl)
      | refine CallN.pure (by assumption) ?_
      | refine GuardK.splitDN (fun h => ?_) (fun h => ?_)
      | refine GuardK.splitD (fun h => ?_) (fun h => ?_)
      | refine CondE.splitDN (fun h => ?_) (fun h => ?_)
      | refine CondE.splitD (fun h => ?_) (fun h => ?_)
      | refine GuardK.splitN (fun h => ?_) (fun h => ?_)
      | refine GuardK.split (fun h => ?_) (fun h => ?_)
      | refine CondE.splitN (fun h => ?_) (fun h => ?_)
      | refine CondE.split (fun h => ?_) (fun h => ?_)
      | refine WeakK.id ?_
      | refine RoundK.next (by omega) ?_ ?_
      | exact trivial
      | simp only [*, go_sem, Nat.reduceAdd, Nat.reduceSub, Nat.reduceMul, Nat.reduceEqDiff, Nat.reduceLT, Nat.reduceLeDiff, Nat.reduceBEq, Int.reduceToNat, Int.reduceLT, Int.reduceLE, Int.reduceBEq, ↓reduceIte])
  all_goals (simp_all [AcctV.same])
theorem same_iff {x y : AcctV} : x.same y = true ↔ x.kind = y.kind ∧ x.who = y.who ∧ x.cur = y.cur := by simp [AcctV.same]
end Go.Proofs.YtbllopdcbkeadaaGreat
set_option linter.unusedSimpArgs false
set_option linter.unusedVariables false
namespace Go.Proofs.YtbllopdcbkeadaaGreat
open Go.Abs
structure StateV.fit (s : StateV) : Prop where
  roll : s.roll.small
  book : s.book.small
  led : s.led.bs.length < 2 ^ 30
  ps : s.ps.length < 2 ^ 30
end Go.Proofs.YtbllopdcbkeadaaGreat
set_option linter.unusedSimpArgs false
set_option linter.unusedVariables false
namespace Go.Proofs.YtbllopdcbkeadaaGreat
open Go.Abs
end Go.Proofs.YtbllopdcbkeadaaGreat
set_option linter.unusedSimpArgs false
set_option linter.unusedVariables false
namespace Go.Proofs.YtbllopdcbkeadaaGreat
open Go.Abs
theorem in2_sum {l : List Int} (h : ∀ n ∈ l, I64 n) (hl : l.length < 2 ^ 58) : (∀ n ∈ l, in2 n = true) ∧ in2 (sumL l) = true := by
  have h1 : ∀ n ∈ l, -9223372036854775808 ≤ n ∧ n ≤ 9223372036854775808 := fun n hn => by have := h n hn; exact ⟨this.1, by have := this.2; omega⟩
  refine ⟨fun n hn => in2_of (h1 n hn) (by omega), ?_⟩
  exact in2_of (B := 9223372036854775808 * (l.length : Int)) (sumL_bound h1) (by omega)
def addN (l : List Int) : Int := if inR (sumL l) then sumL l else 0
theorem refAdd_spec (l : List Int) (h : ∀ n ∈ l, I64 n) (hl : l.length < 2 ^ 30) : Abs.Spec Tryz.prog 47 [] [.sl 1 (ints l)] [] (.tup [.int .i64 (addN l), .bool (inR (sumL l))]) := by
  obtain ⟨h1, h2⟩ := in2_sum h (by omega)
  have hs := refSum_spec l (by omega) h1
  have hI := refInt_spec (sumL l)
  rw [h2, if_pos rfl] at hs
  simp only [wd] at hs hI
  refine Abs.Spec.go (n := 33) (np := 1) (rs := [.tmp 2, .tmp 3]) mixed Tryz.func47 rfl rfl rfl rfl rfl (by simp) (by simp) ?_
  simp only [go_sem, Nat.reduceAdd, Nat.reduceSub, Nat.reduceMul, Nat.reduceEqDiff, Nat.reduceLT, Nat.reduceLeDiff, Nat.reduceBEq, Int.reduceToNat, Int.reduceLT, Int.reduceLE, Int.reduceBEq, ↓reduceIte, ints_len]
  refine LoopK.walk (S := Unit) l.length [0] [] (fun i _ => [(5, .int .i64 i), (4, .ref 352)]) (fun i _ => [(352, .own 2 (wds (l.take i)))]) (fun _ _ => True) () (by simp only [go_sem, Nat.reduceAdd, Nat.reduceSub, Nat.reduceMul, Nat.reduceEqDiff, Nat.reduceLT, Nat.reduceLeDiff, Nat.reduceBEq, Int.reduceToNat, Int.reduceLT, Int.reduceLE, Int.reduceBEq, ↓reduceIte] <;> exact rfl) (by simp only [go_sem, Nat.reduceAdd, Nat.reduceSub, Nat.reduceMul, Nat.reduceEqDiff, Nat.reduceLT, Nat.reduceLeDiff, Nat.reduceBEq, Int.reduceToNat, Int.reduceLT, Int.reduceLE, Int.reduceBEq, ↓reduceIte] <;> exact rfl) trivial ?_ ?_ ?_
  · simp only [go_sem, Nat.reduceAdd, Nat.reduceSub, Nat.reduceMul, Nat.reduceEqDiff, Nat.reduceLT, Nat.reduceLeDiff, Nat.reduceBEq, Int.reduceToNat, Int.reduceLT, Int.reduceLE, Int.reduceBEq, ↓reduceIte] <;> simp [wds]
  · intro i _ hi hdi hwi _
    have hO := refOf_spec l[i] (h _ (List.getElem_mem hi))
    have hnext : wds (l.take (i + 1)) = wds (l.take i) ++ [wd l[i]] := by rw [List.take_succ_eq_append_getElem hi]; simp only [wds, List.map_append, List.map_cons, List.map_nil]
    have hlen : (wds (l.take i)).length = i := by simp [wds]; omega
    simp only [wd] at hO
    simp only [go_sem, Nat.reduceAdd, Nat.reduceSub, Nat.reduceMul, Nat.reduceEqDiff, Nat.reduceLT, Nat.reduceLeDiff, Nat.reduceBEq, Int.reduceToNat, Int.reduceLT, Int.reduceLE, Int.reduceBEq, ↓reduceIte, ints_len, hdi, ints_at l hi]
    (repeat' (with_reducible first | refine And.intro ?_ ?_ | exact DrawN.mk (by kernel_rfl) | exact OkN.mk (by kernel_rfl))) <;> try omega
    refine CallN.pure hO ?_
    simp only [go_sem, Nat.reduceAdd, Nat.reduceSub, Nat.reduceMul, Nat.reduceEqDiff, Nat.reduceLT, Nat.reduceLeDiff, Nat.reduceBEq, Int.reduceToNat, Int.reduceLT, Int.reduceLE, Int.reduceBEq, ↓reduceIte, hwi, hlen]
    (repeat' (with_reducible first | refine And.intro ?_ ?_ | exact DrawN.mk (by kernel_rfl) | exact OkN.mk (by kernel_rfl))) <;> try omega
    refine RoundK.step () hi trivial ?_
    simp only [go_sem, Nat.reduceAdd, Nat.reduceSub, Nat.reduceMul, Nat.reduceEqDiff, Nat.reduceLT, Nat.reduceLeDiff, Nat.reduceBEq, Int.reduceToNat, Int.reduceLT, Int.reduceLE, Int.reduceBEq, ↓reduceIte, hnext] <;> simp [wd]
  · intro _ hdx _
    simp only [go_sem, Nat.reduceAdd, Nat.reduceSub, Nat.reduceMul, Nat.reduceEqDiff, Nat.reduceLT, Nat.reduceLeDiff, Nat.reduceBEq, Int.reduceToNat, Int.reduceLT, Int.reduceLE, Int.reduceBEq, ↓reduceIte, ints_len, hdx, List.take_length]
    refine CallN.gen [] [] true (by simp) ?_
    simp only [go_sem, Nat.reduceAdd, Nat.reduceSub, Nat.reduceMul, Nat.reduceEqDiff, Nat.reduceLT, Nat.reduceLeDiff, Nat.reduceBEq, Int.reduceToNat, Int.reduceLT, Int.reduceLE, Int.reduceBEq, ↓reduceIte]
    refine CallG.intro hs ?_
    simp only [go_sem, Nat.reduceAdd, Nat.reduceSub, Nat.reduceMul, Nat.reduceEqDiff, Nat.reduceLT, Nat.reduceLeDiff, Nat.reduceBEq, Int.reduceToNat, Int.reduceLT, Int.reduceLE, Int.reduceBEq, ↓reduceIte]
    refine CallN.pure hI ?_
    simp only [go_sem, Nat.reduceAdd, Nat.reduceSub, Nat.reduceMul, Nat.reduceEqDiff, Nat.reduceLT, Nat.reduceLeDiff, Nat.reduceBEq, Int.reduceToNat, Int.reduceLT, Int.reduceLE, Int.reduceBEq, ↓reduceIte, addN]
theorem ref8Right_spec (x : AcctV) : Abs.Spec Tryz.prog 110 [] [.agg x.cells] [] (.bool x.right) := by
  simp only [AcctV.cells]
  refine Abs.Spec.go (n := 40) (np := 1) (rs := [.tmp 2]) mixed Tryz.func110 rfl rfl rfl rfl rfl (by simp) (by simp) ?_
  simp only [go_sem, Nat.reduceAdd, Nat.reduceSub, Nat.reduceMul, Nat.reduceEqDiff, Nat.reduceLT, Nat.reduceLeDiff, Nat.reduceBEq, Int.reduceToNat, Int.reduceLT, Int.reduceLE, Int.reduceBEq, ↓reduceIte]
  repeat' (with_reducible first
      | refine And.intro ?_ ?_
      | exact DrawN.mk (by kernel_rfl)
      | exact OkN.mk (by kernel_rfl)
      | refine CallN.pure (by assumption) ?_
      | refine GuardK.splitDN (fun h => ?_) (fun h => ?_)
      | refine GuardK.splitD (fun h => ?_) (fun h => ?_)
      | refine CondE.splitDN (fun h => ?_) (fun h => ?_)
      | refine CondE.splitD (fun h => ?_) (fun h => ?_)
      | refine GuardK.splitN (fun h => ?_) (fun h => ?_)
      | refine GuardK.split (fun h => ?_) (fun h => ?_)
      | refine CondE.splitN (fun h => ?_) (fun h => ?_)
      | refine CondE.split (fun h => ?_) (fun h => ?_)
      | refine WeakK.id ?_
      | refine RoundK.next (by omega) ?_ ?_
      | exact trivial
      | simp only [*, go_sem, Nat.reduceAdd, Nat.reduceSub, Nat.reduceMul, Nat.reduceEqDiff, Nat.reduceLT, Nat.reduceLeDiff, Nat.reduceBEq, Int.reduceToNat, Int.reduceLT, Int.reduceLE, Int.reduceBEq, ↓reduceIte])
  all_goals (try simp only [decide_eq_true_eq, decide_eq_false_iff_not] at *)
  all_goals (unfold AcctV.right; simp_all [owned]; try (intros; omega))
theorem ref8Floor_spec (x : AcctV) : Abs.Spec Tryz.prog 112 [] [.agg x.cells] [] (.int .i64 x.floor) := by
  have hr := ref8Right_spec x
  simp only [AcctV.cells] at hr ⊢
  refine Abs.Spec.go (n := 15) (np := 1) (rs := [.tmp 2]) mixed Tryz.func112 rfl rfl rfl rfl rfl (by simp) (by simp) ?_
  simp only [go_sem, Nat.reduceAdd, Nat.reduceSub, Nat.reduceMul, Nat.reduceEqDiff, Nat.reduceLT, Nat.reduceLeDiff, Nat.reduceBEq, Int.reduceToNat, Int.reduceLT, Int.reduceLE, Int.reduceBEq, ↓reduceIte]
  repeat' (with_reducible first
      | refine And.intro ?_ ?_
      | exact DrawN.mk (by kernel_rfl)
      | exact OkN.mk (by kernel_rfl)
      | refine CallN.pure (by assumption) ?_
      | refine CallN.pure (hr) ?_
      | refine GuardK.splitDN (fun h => ?_) (fun h => ?_)
      | refine GuardK.splitD (fun h => ?_) (fun h => ?_)
      | refine CondE.splitDN (fun h => ?_) (fun h => ?_)
      | refine CondE.splitD (fun h => ?_) (fun h => ?_)
      | refine GuardK.splitN (fun h => ?_) (fun h => ?_)
      | refine GuardK.split (fun h => ?_) (fun h => ?_)
      | refine CondE.splitN (fun h => ?_) (fun h => ?_)
      | refine CondE.split (fun h => ?_) (fun h => ?_)
      | refine WeakK.id ?_
      | refine RoundK.next (by omega) ?_ ?_
      | exact trivial
      | simp only [*, go_sem, Nat.reduceAdd, Nat.reduceSub, Nat.reduceMul, Nat.reduceEqDiff, Nat.reduceLT, Nat.reduceLeDiff, Nat.reduceBEq, Int.reduceToNat, Int.reduceLT, Int.reduceLE, Int.reduceBEq, ↓reduceIte])
  all_goals (unfold AcctV.floor; simp [*])
theorem ref8Less_spec (x y : AcctV) : Abs.Spec Tryz.prog 113 [] [.agg x.cells, .agg y.cells] [] (.bool (x.less y)) := by
  simp only [AcctV.cells]
  refine Abs.Spec.go (n := 30) (np := 2) (rs := [.tmp 4]) mixed Tryz.func113 rfl rfl rfl rfl rfl (by simp) (by simp) ?_
  simp only [go_sem, Nat.reduceAdd, Nat.reduceSub, Nat.reduceMul, Nat.reduceEqDiff, Nat.reduceLT, Nat.reduceLeDiff, Nat.reduceBEq, Int.reduceToNat, Int.reduceLT, Int.reduceLE, Int.reduceBEq, ↓reduceIte]
  repeat' (with_reducible first
      | refine And.intro ?_ ?_
      | exact DrawN.mk (by kernel_rfl)
      | exact OkN.mk (by kernel_rfl)
      | refine CallN.pure (by assumption) ?_
      | refine GuardK.splitDN (fun h => ?_) (fun h => ?_)
      | refine GuardK.splitD (fun h => ?_) (fun h => ?_)
      | refine CondE.splitDN (fun h => ?_) (fun h => ?_)
      | refine CondE.splitD (fun h => ?_) (fun h => ?_)
      | refine GuardK.splitN (fun h => ?_) (fun h => ?_)
      | refine GuardK.split (fun h => ?_) (fun h => ?_)
      | refine CondE.splitN (fun h => ?_) (fun h => ?_)
      | refine CondE.split (fun h => ?_) (fun h => ?_)
      | refine WeakK.id ?_
      | refine RoundK.next (by omega) ?_ ?_
      | exact trivial
      | simp only [*, go_sem, Nat.reduceAdd, Nat.reduceSub, Nat.reduceMul, Nat.reduceEqDiff, Nat.reduceLT, Nat.reduceLeDiff, Nat.reduceBEq, Int.reduceToNat, Int.reduceLT, Int.reduceLE, Int.reduceBEq, ↓reduceIte])
  all_goals (unfold AcctV.less; simp_all)
def inK (ks : List Int) (k : Int) : Bool := ks.any (· == k)
def totL (c : Int) (ks : List Int) (bs : List BalV) : List Int := (bs.filter fun b => inK ks b.kind && b.cur == c).map BalV.sum
theorem totL_step (c : Int) (ks : List Int) (bs : List BalV) {i : Nat} (h : i < bs.length) : totL c ks (bs.take (i + 1)) = if inK ks bs[i].kind && bs[i].cur == c then totL c ks (bs.take i) ++ [bs[i].sum] else totL c ks (bs.take i) := by
  simp only [totL]
  rw [List.take_succ_eq_append_getElem h, List.filter_append, List.map_append]
  cases hb : (inK ks bs[i].kind && bs[i].cur == c) <;> simp [List.filter, hb]
theorem totL_len (c : Int) (ks : List Int) (bs : List BalV) : (totL c ks bs).length ≤ bs.length := by
  simp only [totL, List.length_map]; exact List.length_filter_le _ _
theorem totL_rng {c : Int} {ks : List Int} {bs : List BalV} (h : ∀ b ∈ bs, b.rng) : ∀ n ∈ totL c ks bs, I64 n := by
  intro n hn
  simp only [totL, List.mem_map, List.mem_filter] at hn
  obtain ⟨b, ⟨hb, _⟩, rfl⟩ := hn
  exact (h b hb).2.2.2
theorem inK_step (ks : List Int) (k : Int) {i : Nat} (h : i < ks.length) : inK (ks.take (i + 1)) k = (inK (ks.take i) k || ks[i] == k) := by
  simp only [inK]
  rw [List.take_succ_eq_append_getElem h, List.any_append]; simp
theorem ref8Total_spec (l : LedV) (c : Int) (ks : List Int) (hl : l.bs.length < 2 ^ 30) (hk : ks.length < 2 ^ 30) (hr : ∀ b ∈ l.bs, b.rng) : Abs.Spec Tryz.prog 114 [] [.agg l.cells, .int .i64 c, .sl 1 (ints ks)] [] (.tup [.int .i64 (addN (totL c ks l.bs)), .bool (inR (sumL (totL c ks l.bs)))]) := by
  have htl := totL_len c ks l.bs
  have hA := refAdd_spec (totL c ks l.bs) (totL_rng hr) (by omega)
  simp only [LedV.cells]
  refine Abs.Spec.go (n := 65) (np := 3) (rs := [.tmp 6, .tmp 7]) mixed Tryz.func114 rfl rfl rfl rfl rfl (by simp) (by simp) ?_
  simp only [go_sem, Nat.reduceAdd, Nat.reduceSub, Nat.reduceMul, Nat.reduceEqDiff, Nat.reduceLT, Nat.reduceLeDiff, Nat.reduceBEq, Int.reduceToNat, Int.reduceLT, Int.reduceLE, Int.reduceBEq, ↓reduceIte, List.length_map, ints_len]
  refine LoopK.walk (S := Unit) l.bs.length [1, 2, 3] [64] (fun i _ => [(9, .int .i64 i), (8, .ref 976)]) (fun i _ => [(976, .own 1 (ints (totL c ks (l.bs.take i))))]) (fun _ _ => True) () (by simp only [go_sem, Nat.reduceAdd, Nat.reduceSub, Nat.reduceMul, Nat.reduceEqDiff, Nat.reduceLT, Nat.reduceLeDiff, Nat.reduceBEq, Int.reduceToNat, Int.reduceLT, Int.reduceLE, Int.reduceBEq, ↓reduceIte] <;> exact rfl) (by simp only [go_sem, Nat.reduceAdd, Nat.reduceSub, Nat.reduceMul, Nat.reduceEqDiff, Nat.reduceLT, Nat.reduceLeDiff, Nat.reduceBEq, Int.reduceToNat, Int.reduceLT, Int.reduceLE, Int.reduceBEq, ↓reduceIte] <;> exact rfl) trivial ?_ ?_ ?_
  · simp only [go_sem, Nat.reduceAdd, Nat.reduceSub, Nat.reduceMul, Nat.reduceEqDiff, Nat.reduceLT, Nat.reduceLeDiff, Nat.reduceBEq, Int.reduceToNat, Int.reduceLT, Int.reduceLE, Int.reduceBEq, ↓reduceIte] <;> simp [totL, ints]
  · intro i _ hi hdi hwi _
    have hm := map_at (c := BalV.cells) l.bs hi
    have hs := totL_step c ks l.bs hi
    have hlen := totL_len c ks (l.bs.take i)
    have hlt : (l.bs.take i).length = i := by simp; omega
    have hli : (i : Int) < (l.bs.length : Int) := by omega
    obtain ⟨z, hz⟩ : ∃ z, z = l.bs[i] := ⟨_, rfl⟩
    rw [← hz] at hm hs
    simp only [BalV.cells] at hm
    simp only [go_sem, Nat.reduceAdd, Nat.reduceSub, Nat.reduceMul, Nat.reduceEqDiff, Nat.reduceLT, Nat.reduceLeDiff, Nat.reduceBEq, Int.reduceToNat, Int.reduceLT, Int.reduceLE, Int.reduceBEq, ↓reduceIte, List.length_map, hdi, ints_len]
    refine LoopK.walk (S := Unit) ks.length [1, 2, 3, 8, 9] [64, 976] (fun k _ => [(11, .int .i64 k), (10, .bool (inK (ks.take k) z.kind))]) (fun _ _ => []) (fun _ _ => True) () (by simp only [go_sem, Nat.reduceAdd, Nat.reduceSub, Nat.reduceMul, Nat.reduceEqDiff, Nat.reduceLT, Nat.reduceLeDiff, Nat.reduceBEq, Int.reduceToNat, Int.reduceLT, Int.reduceLE, Int.reduceBEq, ↓reduceIte] <;> exact rfl) (by simp only [go_sem, Nat.reduceAdd, Nat.reduceSub, Nat.reduceMul, Nat.reduceEqDiff, Nat.reduceLT, Nat.reduceLeDiff, Nat.reduceBEq, Int.reduceToNat, Int.reduceLT, Int.reduceLE, Int.reduceBEq, ↓reduceIte] <;> exact rfl) trivial ?_ ?_ ?_
    · simp only [go_sem, Nat.reduceAdd, Nat.reduceSub, Nat.reduceMul, Nat.reduceEqDiff, Nat.reduceLT, Nat.reduceLeDiff, Nat.reduceBEq, Int.reduceToNat, Int.reduceLT, Int.reduceLE, Int.reduceBEq, ↓reduceIte] <;> simp [inK]
    · intro k _ hk hdk hwk _
      have hst := inK_step ks z.kind hk
      cases hb : inK (ks.take k) z.kind
      · rw [hb, Bool.false_or] at hst
        simp only [go_sem, Nat.reduceAdd, Nat.reduceSub, Nat.reduceMul, Nat.reduceEqDiff, Nat.reduceLT, Nat.reduceLeDiff, Nat.reduceBEq, Int.reduceToNat, Int.reduceLT, Int.reduceLE, Int.reduceBEq, ↓reduceIte, List.length_map, ints_len, hdk, ints_at ks hk, hm, hwk]
        (repeat' (with_reducible first | refine And.intro ?_ ?_ | exact DrawN.mk (by kernel_rfl) | exact OkN.mk (by kernel_rfl))) <;> try omega
        refine RoundK.step () hk trivial ?_
        simp only [go_sem, Nat.reduceAdd, Nat.reduceSub, Nat.reduceMul, Nat.reduceEqDiff, Nat.reduceLT, Nat.reduceLeDiff, Nat.reduceBEq, Int.reduceToNat, Int.reduceLT, Int.reduceLE, Int.reduceBEq, ↓reduceIte, hst]
      · rw [hb, Bool.true_or] at hst
        simp only [go_sem, Nat.reduceAdd, Nat.reduceSub, Nat.reduceMul, Nat.reduceEqDiff, Nat.reduceLT, Nat.reduceLeDiff, Nat.reduceBEq, Int.reduceToNat, Int.reduceLT, Int.reduceLE, Int.reduceBEq, ↓reduceIte, List.length_map, ints_len, hdk, ints_at ks hk, hm, hwk]
        (repeat' (with_reducible first | refine And.intro ?_ ?_ | exact DrawN.mk (by kernel_rfl) | exact OkN.mk (by kernel_rfl))) <;> try omega
        refine RoundK.step () hk trivial ?_
        simp only [go_sem, Nat.reduceAdd, Nat.reduceSub, Nat.reduceMul, Nat.reduceEqDiff, Nat.reduceLT, Nat.reduceLeDiff, Nat.reduceBEq, Int.reduceToNat, Int.reduceLT, Int.reduceLE, Int.reduceBEq, ↓reduceIte, hst]
    · intro _ hdk _
      cases b1 : inK ks z.kind
      · simp only [b1, Bool.false_and, Bool.false_eq_true, if_false] at hs
        simp only [go_sem, Nat.reduceAdd, Nat.reduceSub, Nat.reduceMul, Nat.reduceEqDiff, Nat.reduceLT, Nat.reduceLeDiff, Nat.reduceBEq, Int.reduceToNat, Int.reduceLT, Int.reduceLE, Int.reduceBEq, ↓reduceIte, ints_len, List.length_map, hdk, List.take_length, b1, hwi]
        (repeat' (with_reducible first | refine And.intro ?_ ?_ | exact DrawN.mk (by kernel_rfl) | exact OkN.mk (by kernel_rfl))) <;> try omega
        refine RoundK.step () hi trivial ?_
        simp only [go_sem, Nat.reduceAdd, Nat.reduceSub, Nat.reduceMul, Nat.reduceEqDiff, Nat.reduceLT, Nat.reduceLeDiff, Nat.reduceBEq, Int.reduceToNat, Int.reduceLT, Int.reduceLE, Int.reduceBEq, ↓reduceIte, hs]
      cases b2 : z.cur == c
      · simp only [b1, b2, Bool.and_false, Bool.false_eq_true, if_false] at hs
        simp only [go_sem, Nat.reduceAdd, Nat.reduceSub, Nat.reduceMul, Nat.reduceEqDiff, Nat.reduceLT, Nat.reduceLeDiff, Nat.reduceBEq, Int.reduceToNat, Int.reduceLT, Int.reduceLE, Int.reduceBEq, ↓reduceIte, ints_len, List.length_map, hdk, List.take_length, b1, hm, b2, hwi]
        (repeat' (with_reducible first | refine And.intro ?_ ?_ | exact DrawN.mk (by kernel_rfl) | exact OkN.mk (by kernel_rfl))) <;> try omega
        refine RoundK.step () hi trivial ?_
        simp only [go_sem, Nat.reduceAdd, Nat.reduceSub, Nat.reduceMul, Nat.reduceEqDiff, Nat.reduceLT, Nat.reduceLeDiff, Nat.reduceBEq, Int.reduceToNat, Int.reduceLT, Int.reduceLE, Int.reduceBEq, ↓reduceIte, hs]
      simp only [b1, b2, Bool.and_self, if_true] at hs
      simp only [go_sem, Nat.reduceAdd, Nat.reduceSub, Nat.reduceMul, Nat.reduceEqDiff, Nat.reduceLT, Nat.reduceLeDiff, Nat.reduceBEq, Int.reduceToNat, Int.reduceLT, Int.reduceLE, Int.reduceBEq, ↓reduceIte, ints_len, List.length_map, hdk, List.take_length, b1, hm, b2, hwi]
      (repeat' (with_reducible first | refine And.intro ?_ ?_ | exact DrawN.mk (by kernel_rfl) | exact OkN.mk (by kernel_rfl))) <;> try omega
      refine RoundK.step () hi trivial ?_
      simp only [go_sem, Nat.reduceAdd, Nat.reduceSub, Nat.reduceMul, Nat.reduceEqDiff, Nat.reduceLT, Nat.reduceLeDiff, Nat.reduceBEq, Int.reduceToNat, Int.reduceLT, Int.reduceLE, Int.reduceBEq, ↓reduceIte, hs] <;> simp [ints]
  · intro _ hdx _
    simp only [go_sem, Nat.reduceAdd, Nat.reduceSub, Nat.reduceMul, Nat.reduceEqDiff, Nat.reduceLT, Nat.reduceLeDiff, Nat.reduceBEq, Int.reduceToNat, Int.reduceLT, Int.reduceLE, Int.reduceBEq, ↓reduceIte, ints_len, List.length_map, hdx, List.take_length]
    refine CallN.gen [] [] true (by simp) ?_
    simp only [go_sem, Nat.reduceAdd, Nat.reduceSub, Nat.reduceMul, Nat.reduceEqDiff, Nat.reduceLT, Nat.reduceLeDiff, Nat.reduceBEq, Int.reduceToNat, Int.reduceLT, Int.reduceLE, Int.reduceBEq, ↓reduceIte]
    refine CallG.intro hA ?_
    simp only [go_sem, Nat.reduceAdd, Nat.reduceSub, Nat.reduceMul, Nat.reduceEqDiff, Nat.reduceLT, Nat.reduceLeDiff, Nat.reduceBEq, Int.reduceToNat, Int.reduceLT, Int.reduceLE, Int.reduceBEq, ↓reduceIte]
end Go.Proofs.YtbllopdcbkeadaaGreat
set_option linter.unusedSimpArgs false
set_option linter.unusedVariables false
namespace Go.Proofs.YtbllopdcbkeadaaGreat
open Go.Abs
theorem led_next {bs : List BalV} {i : Nat} (hI : ∀ j < i, ledAt bs j = true) (h0 : ledAt bs i = true) : ∀ k < i + 1, ledAt bs k = true := fun k hk => by
  rcases Nat.lt_or_ge k i with h | h
  · exact hI k h
  · obtain rfl : k = i := by omega
    exact h0
theorem tot_cur {bs : List BalV} (h : ledSorted bs = true) (c : Int) : totL c [1, 2, 3, 4, 5, 6] bs = curL c bs ∧ ∀ n ∈ curL c bs, inR n = true := by
  have hk : ∀ b ∈ bs, balOk b = true := fun b hb => by
    obtain ⟨i, hi, rfl⟩ := List.mem_iff_getElem.1 hb
    have := List.all_eq_true.1 h i (List.mem_range.2 hi)
    rcases Nat.eq_zero_or_pos i with rfl | hp
    · rwa [ledAt_zero hi] at this
    · obtain ⟨j, rfl⟩ : ∃ j, i = j + 1 := ⟨i - 1, by omega⟩
      rw [ledAt_succ hi, Bool.and_eq_true] at this; exact this.1
  refine ⟨?_, fun n hn => ?_⟩
  · unfold totL curL
    congr 1
    refine List.filter_congr fun b hb => ?_
    have := hk b hb
    simp only [balOk, Bool.and_eq_true] at this
    have h1 := this.1
    unfold AcctV.right at h1
    split at h1
    · cases h1
    · rename_i h2
      simp only [BalV.acct] at h2
      have e : inK [1, 2, 3, 4, 5, 6] b.kind = true := by
        simp only [inK, List.any_cons, List.any_nil, Bool.or_eq_true, beq_iff_eq]
        omega
      rw [e, Bool.true_and]
  · simp only [curL, List.mem_map, List.mem_filter] at hn
    obtain ⟨b, ⟨hb, _⟩, rfl⟩ := hn
    have := hk b hb
    simp only [balOk, Bool.and_eq_true] at this
    exact this.2.1
theorem right_all {l : List Int} (h : ∀ n ∈ l, inR n = true) : right l = true := List.all_eq_true.2 h
set_option maxHeartbeats 1000000 in
set_option maxRecDepth 8000 in
theorem ref8Ledger_spec (l : LedV) (hl : l.bs.length < 2 ^ 30) (hr : ∀ b ∈ l.bs, b.rng) : Abs.Spec Tryz.prog 41 [] [.agg l.cells] [] (.bool l.okB) := by
  have hT := fun c => ref8Total_spec l c [1, 2, 3, 4, 5, 6] hl (by simp) hr
  simp only [LedV.cells, ints, List.map_cons, List.map_nil] at hT ⊢
  refine Abs.Spec.go (n := 80) (np := 1) (rs := [.tmp 2]) mixed Tryz.func41 rfl rfl rfl rfl rfl (by simp) (by simp) ?_
  rcases Int.lt_or_le l.last 0 with h0 | h0
  · have d0 : decide (l.last < 0) = true := by simpa using h0
    have e : l.okB = false := by simp [LedV.okB]; omega
    simp only [go_sem, Nat.reduceAdd, Nat.reduceSub, Nat.reduceMul, Nat.reducePow, Nat.reduceEqDiff, Nat.reduceLT, Nat.reduceLeDiff, Nat.reduceBEq, Nat.reduceBNe, Int.reduceToNat, Int.reduceLT, Int.reduceLE, Int.reduceEq, Int.reduceBNe, Int.reduceBEq, Int.reduceAdd, Int.reduceSub, Int.reduceMul, Int.reduceNeg, ↓reduceIte, d0, e]
  have d0 : decide (l.last < 0) = false := by simpa using h0
  simp only [go_sem, Nat.reduceAdd, Nat.reduceSub, Nat.reduceMul, Nat.reducePow, Nat.reduceEqDiff, Nat.reduceLT, Nat.reduceLeDiff, Nat.reduceBEq, Nat.reduceBNe, Int.reduceToNat, Int.reduceLT, Int.reduceLE, Int.reduceEq, Int.reduceBNe, Int.reduceBEq, Int.reduceAdd, Int.reduceSub, Int.reduceMul, Int.reduceNeg, ↓reduceIte, d0, List.length_map]
  refine LoopK.count l.bs.length [1] [32] (fun i => [(3, .int .i64 i)]) (fun i => []) (fun i => ∀ j < i, ledAt l.bs j = true) (by simp only [go_sem, Nat.reduceAdd, Nat.reduceSub, Nat.reduceMul, Nat.reducePow, Nat.reduceEqDiff, Nat.reduceLT, Nat.reduceLeDiff, Nat.reduceBEq, Nat.reduceBNe, Int.reduceToNat, Int.reduceLT, Int.reduceLE, Int.reduceEq, Int.reduceBNe, Int.reduceBEq, Int.reduceAdd, Int.reduceSub, Int.reduceMul, Int.reduceNeg, ↓reduceIte] <;> exact rfl) (by simp only [go_sem, Nat.reduceAdd, Nat.reduceSub, Nat.reduceMul, Nat.reducePow, Nat.reduceEqDiff, Nat.reduceLT, Nat.reduceLeDiff, Nat.reduceBEq, Nat.reduceBNe, Int.reduceToNat, Int.reduceLT, Int.reduceLE, Int.reduceEq, Int.reduceBNe, Int.reduceBEq, Int.reduceAdd, Int.reduceSub, Int.reduceMul, Int.reduceNeg, ↓reduceIte] <;> exact rfl) (by simp) ?_ ?_
  · simp only [go_sem, Nat.reduceAdd, Nat.reduceSub, Nat.reduceMul, Nat.reducePow, Nat.reduceEqDiff, Nat.reduceLT, Nat.reduceLeDiff, Nat.reduceBEq, Nat.reduceBNe, Int.reduceToNat, Int.reduceLT, Int.reduceLE, Int.reduceEq, Int.reduceBNe, Int.reduceBEq, Int.reduceAdd, Int.reduceSub, Int.reduceMul, Int.reduceNeg, ↓reduceIte] <;> simp
  intro i hi hI
  simp only [go_sem, Nat.reduceAdd, Nat.reduceSub, Nat.reduceMul, Nat.reducePow, Nat.reduceEqDiff, Nat.reduceLT, Nat.reduceLeDiff, Nat.reduceBEq, Nat.reduceBNe, Int.reduceToNat, Int.reduceLT, Int.reduceLE, Int.reduceEq, Int.reduceBNe, Int.reduceBEq, Int.reduceAdd, Int.reduceSub, Int.reduceMul, Int.reduceNeg, ↓reduceIte, List.length_map]
  refine CondE.splitD (fun h => ?_) (fun h => ?_)
  · have hi' : i < l.bs.length := by omega
    have hw : IntKind.wrap .i64 ((i : Int) + 1) = ((i + 1 : Nat) : Int) := by rw [wr64 (by omega) (by omega)]; omega
    have hm := map_at (c := BalV.cells) l.bs hi'
    have h1 := ref8Right_spec l.bs[i].acct
    have h2 := refRight_spec l.bs[i].sum
    have h3 := ref8Floor_spec l.bs[i].acct
    have e0 := led_next (i := i) hI
    have e1 : ledAt l.bs i = false → l.okB = false := fun hx => by simp [LedV.okB, ledSorted_no hi' hx]
    simp only [BalV.cells, AcctV.cells, BalV.acct] at hm h1 h3
    clear hT
    rcases Nat.eq_zero_or_pos i with rfl | hpos
    · have hk := ledAt_zero hi'
      simp only [balOk, BalV.acct] at hk
      simp only [go_sem, Nat.reduceAdd, Nat.reduceSub, Nat.reduceMul, Nat.reducePow, Nat.reduceEqDiff, Nat.reduceLT, Nat.reduceLeDiff, Nat.reduceBEq, Nat.reduceBNe, Int.reduceToNat, Int.reduceLT, Int.reduceLE, Int.reduceEq, Int.reduceBNe, Int.reduceBEq, Int.reduceAdd, Int.reduceSub, Int.reduceMul, Int.reduceNeg, ↓reduceIte, hm, List.length_map]
      repeat' (with_reducible first
          | refine And.intro ?_ ?_
          | exact DrawN.mk (by kernel_rfl)
          | exact OkN.mk (by kernel_rfl)
          | refine CallN.pure (by assumption) ?_
          | refine CallN.pure (h1) ?_
          | refine CallN.pure (h2) ?_
          | refine CallN.pure (h3) ?_
          | refine GuardK.splitDN (fun h => ?_) (fun h => ?_)
          | refine GuardK.splitD (fun h => ?_) (fun h => ?_)
          | refine CondE.splitDN (fun h => ?_) (fun h => ?_)
          | refine CondE.splitD (fun h => ?_) (fun h => ?_)
          | refine GuardK.splitN (fun h => ?_) (fun h => ?_)
          | refine GuardK.split (fun h => ?_) (fun h => ?_)
          | refine CondE.splitN (fun h => ?_) (fun h => ?_)
          | refine CondE.split (fun h => ?_) (fun h => ?_)
          | refine WeakK.id ?_
          | refine RoundK.next (by omega) ?_ ?_
          | exact trivial
          | simp only [*, go_sem, Nat.reduceAdd, Nat.reduceSub, Nat.reduceMul, Nat.reducePow, Nat.reduceEqDiff, Nat.reduceLT, Nat.reduceLeDiff, Nat.reduceBEq, Nat.reduceBNe, Int.reduceToNat, Int.reduceLT, Int.reduceLE, Int.reduceEq, Int.reduceBNe, Int.reduceBEq, Int.reduceAdd, Int.reduceSub, Int.reduceMul, Int.reduceNeg, ↓reduceIte])
      all_goals first
        | omega
        | rfl
        | (refine e0 ?_; clear e0 e1; rw [hk]; clear hk; simp [bne, *]; done)
        | (rw [e1 ?_]; clear e0 e1; rw [hk]; clear hk; simp [bne, *]; done)
    · obtain ⟨j, rfl⟩ : ∃ j, i = j + 1 := ⟨i - 1, by omega⟩
      have hj : j < l.bs.length := by omega
      have hw1 : IntKind.wrap .i64 (((j + 1 : Nat) : Int) - 1) = (j : Int) := by rw [wr64 (by omega) (by omega)]; omega
      have hk := ledAt_succ hi'
      simp only [balOk, BalV.acct] at hk
      have hmj := map_at (c := BalV.cells) l.bs hj
      have h4 := ref8Less_spec l.bs[j].acct l.bs[j + 1].acct
      simp only [BalV.cells, AcctV.cells, BalV.acct] at hmj h4
      simp only [go_sem, Nat.reduceAdd, Nat.reduceSub, Nat.reduceMul, Nat.reducePow, Nat.reduceEqDiff, Nat.reduceLT, Nat.reduceLeDiff, Nat.reduceBEq, Nat.reduceBNe, Int.reduceToNat, Int.reduceLT, Int.reduceLE, Int.reduceEq, Int.reduceBNe, Int.reduceBEq, Int.reduceAdd, Int.reduceSub, Int.reduceMul, Int.reduceNeg, ↓reduceIte, hm, List.length_map]
      repeat' (with_reducible first
          | refine And.intro ?_ ?_
          | exact DrawN.mk (by kernel_rfl)
          | exact OkN.mk (by kernel_rfl)
          | refine CallN.pure (by assumption) ?_
          | refine CallN.pure (h1) ?_
          | refine CallN.pure (h2) ?_
          | refine CallN.pure (h3) ?_
          | refine CallN.pure (h4) ?_
          | refine GuardK.splitDN (fun h => ?_) (fun h => ?_)
          | refine GuardK.splitD (fun h => ?_) (fun h => ?_)
          | refine CondE.splitDN (fun h => ?_) (fun h => ?_)
          | refine CondE.splitD (fun h => ?_) (fun h => ?_)
          | refine GuardK.splitN (fun h => ?_) (fun h => ?_)
          | refine GuardK.split (fun h => ?_) (fun h => ?_)
          | refine CondE.splitN (fun h => ?_) (fun h => ?_)
          | refine CondE.split (fun h => ?_) (fun h => ?_)
          | refine WeakK.id ?_
          | refine RoundK.next (by omega) ?_ ?_
          | exact trivial
          | simp only [*, go_sem, Nat.reduceAdd, Nat.reduceSub, Nat.reduceMul, Nat.reducePow, Nat.reduceEqDiff, Nat.reduceLT, Nat.reduceLeDiff, Nat.reduceBEq, Nat.reduceBNe, Int.reduceToNat, Int.reduceLT, Int.reduceLE, Int.reduceEq, Int.reduceBNe, Int.reduceBEq, Int.reduceAdd, Int.reduceSub, Int.reduceMul, Int.reduceNeg, ↓reduceIte, hmj, List.length_map])
      all_goals first
        | omega
        | rfl
        | (refine e0 ?_; clear e0 e1; rw [hk]; clear hk; simp [bne, *]; done)
        | (rw [e1 ?_]; clear e0 e1; rw [hk]; clear hk; simp [bne, *]; done)
  have hs := ledSorted_yes (fun j (hj : j < l.bs.length) => hI j (by omega))
  have hbal : ∀ c : Int, balL l.bs c = (inR (sumL (curL c l.bs)) && addN (curL c l.bs) == 0) := fun c => by
    have := (tot_cur hs c).2
    simp only [balL, sumE, sumN, addN, right_all this, if_true, Bool.true_and]
    cases inR (sumL (curL c l.bs)) <;> simp
  simp only [go_sem, Nat.reduceAdd, Nat.reduceSub, Nat.reduceMul, Nat.reducePow, Nat.reduceEqDiff, Nat.reduceLT, Nat.reduceLeDiff, Nat.reduceBEq, Nat.reduceBNe, Int.reduceToNat, Int.reduceLT, Int.reduceLE, Int.reduceEq, Int.reduceBNe, Int.reduceBEq, Int.reduceAdd, Int.reduceSub, Int.reduceMul, Int.reduceNeg, ↓reduceIte]
  refine LoopK.walk (S := Unit) 3 [1] [32] (fun i _ => [(5, .int .i64 i)]) (fun i _ => []) (fun i _ => ∀ c < i, balL l.bs (c : Nat) = true) () (by simp only [go_sem, Nat.reduceAdd, Nat.reduceSub, Nat.reduceMul, Nat.reducePow, Nat.reduceEqDiff, Nat.reduceLT, Nat.reduceLeDiff, Nat.reduceBEq, Nat.reduceBNe, Int.reduceToNat, Int.reduceLT, Int.reduceLE, Int.reduceEq, Int.reduceBNe, Int.reduceBEq, Int.reduceAdd, Int.reduceSub, Int.reduceMul, Int.reduceNeg, ↓reduceIte] <;> exact rfl) (by simp only [go_sem, Nat.reduceAdd, Nat.reduceSub, Nat.reduceMul, Nat.reducePow, Nat.reduceEqDiff, Nat.reduceLT, Nat.reduceLeDiff, Nat.reduceBEq, Nat.reduceBNe, Int.reduceToNat, Int.reduceLT, Int.reduceLE, Int.reduceEq, Int.reduceBNe, Int.reduceBEq, Int.reduceAdd, Int.reduceSub, Int.reduceMul, Int.reduceNeg, ↓reduceIte] <;> exact rfl) (by simp) ?_ ?_ ?_
  · simp only [go_sem, Nat.reduceAdd, Nat.reduceSub, Nat.reduceMul, Nat.reducePow, Nat.reduceEqDiff, Nat.reduceLT, Nat.reduceLeDiff, Nat.reduceBEq, Nat.reduceBNe, Int.reduceToNat, Int.reduceLT, Int.reduceLE, Int.reduceEq, Int.reduceBNe, Int.reduceBEq, Int.reduceAdd, Int.reduceSub, Int.reduceMul, Int.reduceNeg, ↓reduceIte] <;> simp
  · intro c _ hc hdc hwc hC
    have hdc : decide ((c : Int) < 3) = true := hdc
    have hTc := hT c
    rw [(tot_cur hs c).1] at hTc
    have hb := hbal c
    have hbad : balL l.bs c = false → l.okB = false := fun hx => by
      obtain rfl | rfl | rfl : c = 0 ∨ c = 1 ∨ c = 2 := by omega
      · have : balL l.bs 0 = false := hx
        simp [LedV.okB, this]
      · have : balL l.bs 1 = false := hx
        simp [LedV.okB, this]
      · have : balL l.bs 2 = false := hx
        simp [LedV.okB, this]
    simp only [go_sem, Nat.reduceAdd, Nat.reduceSub, Nat.reduceMul, Nat.reducePow, Nat.reduceEqDiff, Nat.reduceLT, Nat.reduceLeDiff, Nat.reduceBEq, Nat.reduceBNe, Int.reduceToNat, Int.reduceLT, Int.reduceLE, Int.reduceEq, Int.reduceBNe, Int.reduceBEq, Int.reduceAdd, Int.reduceSub, Int.reduceMul, Int.reduceNeg, ↓reduceIte, hdc]
    refine CallN.gen [] [] true (by simp) ?_
    simp only [go_sem, Nat.reduceAdd, Nat.reduceSub, Nat.reduceMul, Nat.reducePow, Nat.reduceEqDiff, Nat.reduceLT, Nat.reduceLeDiff, Nat.reduceBEq, Nat.reduceBNe, Int.reduceToNat, Int.reduceLT, Int.reduceLE, Int.reduceEq, Int.reduceBNe, Int.reduceBEq, Int.reduceAdd, Int.reduceSub, Int.reduceMul, Int.reduceNeg, ↓reduceIte]
    refine CallG.intro hTc ?_
    cases b1 : inR (sumL (curL c l.bs))
    · simp only [go_sem, Nat.reduceAdd, Nat.reduceSub, Nat.reduceMul, Nat.reducePow, Nat.reduceEqDiff, Nat.reduceLT, Nat.reduceLeDiff, Nat.reduceBEq, Nat.reduceBNe, Int.reduceToNat, Int.reduceLT, Int.reduceLE, Int.reduceEq, Int.reduceBNe, Int.reduceBEq, Int.reduceAdd, Int.reduceSub, Int.reduceMul, Int.reduceNeg, ↓reduceIte, b1, hbad (by rw [hb, b1]; rfl)]
    cases b2 : addN (curL c l.bs) == 0
    · simp only [go_sem, Nat.reduceAdd, Nat.reduceSub, Nat.reduceMul, Nat.reducePow, Nat.reduceEqDiff, Nat.reduceLT, Nat.reduceLeDiff, Nat.reduceBEq, Nat.reduceBNe, Int.reduceToNat, Int.reduceLT, Int.reduceLE, Int.reduceEq, Int.reduceBNe, Int.reduceBEq, Int.reduceAdd, Int.reduceSub, Int.reduceMul, Int.reduceNeg, ↓reduceIte, b1, bne, b2, hbad (by rw [hb, b1, b2]; rfl)]
    simp only [go_sem, Nat.reduceAdd, Nat.reduceSub, Nat.reduceMul, Nat.reducePow, Nat.reduceEqDiff, Nat.reduceLT, Nat.reduceLeDiff, Nat.reduceBEq, Nat.reduceBNe, Int.reduceToNat, Int.reduceLT, Int.reduceLE, Int.reduceEq, Int.reduceBNe, Int.reduceBEq, Int.reduceAdd, Int.reduceSub, Int.reduceMul, Int.reduceNeg, ↓reduceIte, b1, bne, b2, hwc]
    refine RoundK.step () hc ?_ ?_
    · intro k hk
      rcases Nat.lt_or_ge k c with h | h
      · exact hC k h
      · obtain rfl : k = c := by omega
        rw [hb, b1, b2]; rfl
    · simp only [go_sem, Nat.reduceAdd, Nat.reduceSub, Nat.reduceMul, Nat.reducePow, Nat.reduceEqDiff, Nat.reduceLT, Nat.reduceLeDiff, Nat.reduceBEq, Nat.reduceBNe, Int.reduceToNat, Int.reduceLT, Int.reduceLE, Int.reduceEq, Int.reduceBNe, Int.reduceBEq, Int.reduceAdd, Int.reduceSub, Int.reduceMul, Int.reduceNeg, ↓reduceIte]
  · intro _ hdc hC
    have hdc : decide ((3 : Int) < 3) = false := hdc
    have b0 : balL l.bs 0 = true := hC 0 (by omega)
    have b1 : balL l.bs 1 = true := hC 1 (by omega)
    have b2 : balL l.bs 2 = true := hC 2 (by omega)
    have e : l.okB = true := by simp [LedV.okB, hs, b0, b1, b2, h0]
    simp only [go_sem, Nat.reduceAdd, Nat.reduceSub, Nat.reduceMul, Nat.reducePow, Nat.reduceEqDiff, Nat.reduceLT, Nat.reduceLeDiff, Nat.reduceBEq, Nat.reduceBNe, Int.reduceToNat, Int.reduceLT, Int.reduceLE, Int.reduceEq, Int.reduceBNe, Int.reduceBEq, Int.reduceAdd, Int.reduceSub, Int.reduceMul, Int.reduceNeg, ↓reduceIte, hdc, e]
end Go.Proofs.YtbllopdcbkeadaaGreat
