/- The reference's margin. The reference's margin: the whole. Twins of states. A ledger in which something was paid. What a member lacks. The law CoverShorts. The reference's ledgers. The reference's ledgers: the whole. No theorem of a claim. -/
import Derived.Test.YtbllopdcbkeadaaGreatLE
set_option linter.unusedSimpArgs false
set_option linter.unusedVariables false
namespace Go.Proofs.YtbllopdcbkeadaaGreat
open Go.Abs
end Go.Proofs.YtbllopdcbkeadaaGreat
set_option linter.unusedSimpArgs false
set_option linter.unusedVariables false
namespace Go.Proofs.YtbllopdcbkeadaaGreat
open Go.Abs
end Go.Proofs.YtbllopdcbkeadaaGreat
set_option linter.unusedSimpArgs false
set_option linter.unusedVariables false
namespace Go.Proofs.YtbllopdcbkeadaaGreat
open Go.Abs
theorem Spec.frozen {P : Program} {f : FuncId} {ds hs' : List D} {d : D} (h : Abs.Spec P f [] ds hs' d) (fz : List Nat) {hs2 : List D} {d2 : D} (hd : (frzEL fz (mkE [(0, d)] (osL 0 hs'))).t 0 = d2) (ho : ∀ r, (frzEL fz (mkE [(0, d)] (osL 0 hs'))).o r = hs2.getD r .undef) : Abs.Spec P f [] ds hs2 d2 := by
  refine ⟨h.1, ?_⟩
  intro w l0 G0 own0 S0 vs hl0 hG hsz hr hobj
  refine (h.2 w l0 G0 own0 S0 vs hl0 hG hsz hr hobj).mono ?_
  rintro e w' ⟨v, rfl, o⟩
  refine ⟨v, rfl, o.os, o.tape, o.output, o.size, o.old, o.part, ?_⟩
  obtain ⟨lev, own, S, h1, h2, h3, h4, _⟩ := o.rep
  have hi : Inv w l0 G0 S w' lev own S (mkE [(0, d)] (osL 0 hs')) (fun j => if j = 0 then v else Go.undef) := by
    refine ⟨o.os, o.tape, o.output, o.size, o.old, o.part, h1, h2, fun _ _ _ => rfl, ?_, ?_⟩
    · intro s
      show RepV _ _ (Abs.look [(0, d)] s)
      by_cases hs : s = 0
      · subst hs; simpa [Abs.look] using h3
      · simp only [Abs.look, if_neg hs]; exact .undef _
    · intro r
      show ObjAt _ _ _ _ _ _ r (Abs.look (osL 0 hs') r)
      rw [osL_look]
      simpa using h4 r
  obtain ⟨lev', S', hi'⟩ := Inv.frzL fz hi (fun _ _ => trivial)
  refine ⟨lev', own, S', hi'.priv, hi'.levOld, ?_, ?_, fun i h => by cases h⟩
  · have := hi'.temps 0
    rw [hd] at this
    simpa using this
  · intro r
    have := hi'.objs r
    rwa [ho] at this
def RollV.tiny (r : RollV) : Prop := r.ms.length < 2 ^ 30 ∧ r.ns.length < 2 ^ 30 ∧ r.xs.length < 2 ^ 30
theorem RollV.tiny.small {r : RollV} (h : r.tiny) : r.small := ⟨by have := h.1; omega, by have := h.2.1; omega, by have := h.2.2; omega⟩
theorem twinRoll_spec (r : RollV) (hr : r.tiny) : Abs.Spec Tryz.prog 30 [] [.agg r.cells] [.own 3 (r.ms.map MemberV.cells), .own 12 (r.ns.map InstV.cells), .own 4 (r.xs.map AssetV.cells)] (.agg [.ref 0, .ref 1, .ref 2]) := by
  obtain ⟨l1, l2, l3⟩ := hr
  simp only [RollV.cells]
  refine Abs.Spec.go (n := 23) (np := 1) (rs := [.cell 2 28]) mixed Tryz.func30 rfl rfl rfl rfl rfl (by simp) (by simp) ?_
  simp only [go_sem, Nat.reduceAdd, Nat.reduceSub, Nat.reduceMul, Nat.reducePow, Nat.reduceEqDiff, Nat.reduceLT, Nat.reduceLeDiff, Nat.reduceBEq, Nat.reduceBNe, Int.reduceToNat, Int.reduceLT, Int.reduceLE, Int.reduceEq, Int.reduceBNe, Int.reduceBEq, Int.reduceAdd, Int.reduceSub, Int.reduceMul, Int.reduceNeg, ↓reduceIte, List.length_map]
  omega
theorem twinBook_spec (b : BookV) (hb : b.small) : Abs.Spec Tryz.prog 31 [] [.agg b.cells] [.own 7 (b.ts.map TradeV.cells), .own 4 (b.qs.map PosV.cells)] (.agg [.int .i64 b.next, .ref 0, .ref 1]) := by
  obtain ⟨l1, l2⟩ := hb
  simp only [BookV.cells]
  refine Abs.Spec.go (n := 20) (np := 1) (rs := [.cell 2 32]) mixed Tryz.func31 rfl rfl rfl rfl rfl (by simp) (by simp) ?_
  simp only [go_sem, Nat.reduceAdd, Nat.reduceSub, Nat.reduceMul, Nat.reducePow, Nat.reduceEqDiff, Nat.reduceLT, Nat.reduceLeDiff, Nat.reduceBEq, Nat.reduceBNe, Int.reduceToNat, Int.reduceLT, Int.reduceLE, Int.reduceEq, Int.reduceBNe, Int.reduceBEq, Int.reduceAdd, Int.reduceSub, Int.reduceMul, Int.reduceNeg, ↓reduceIte, List.length_map]
  omega
theorem twinLed_spec (l : LedV) (hl : l.bs.length < 2 ^ 30) : Abs.Spec Tryz.prog 32 [] [.agg l.cells] [.own 4 (l.bs.map BalV.cells)] (.agg [.int .i64 l.last, .ref 0]) := by
  simp only [LedV.cells]
  refine Abs.Spec.go (n := 14) (np := 1) (rs := [.cell 2 35]) mixed Tryz.func32 rfl rfl rfl rfl rfl (by simp) (by simp) ?_
  simp only [go_sem, Nat.reduceAdd, Nat.reduceSub, Nat.reduceMul, Nat.reducePow, Nat.reduceEqDiff, Nat.reduceLT, Nat.reduceLeDiff, Nat.reduceBEq, Nat.reduceBNe, Int.reduceToNat, Int.reduceLT, Int.reduceLE, Int.reduceEq, Int.reduceBNe, Int.reduceBEq, Int.reduceAdd, Int.reduceSub, Int.reduceMul, Int.reduceNeg, ↓reduceIte, List.length_map]
  omega
theorem twinReply_spec (x : ReplyV) (h : x.fits) : Abs.Spec Tryz.prog 33 [] [.agg x.cells] [.own 3 (x.dues.map DueV.cells), .own 8 (x.falls.map FallV.cells)] (.agg [.int .i64 x.code, .int .i64 x.no, .int .i64 x.amt, .ref 0, .ref 1]) := by
  obtain ⟨h1, h2⟩ := h
  simp only [ReplyV.cells]
  refine Abs.Spec.go (n := 24) (np := 1) (rs := [.cell 2 67]) mixed Tryz.func33 rfl rfl rfl rfl rfl (by simp) (by simp) ?_
  simp only [go_sem, Nat.reduceAdd, Nat.reduceSub, Nat.reduceMul, Nat.reducePow, Nat.reduceEqDiff, Nat.reduceLT, Nat.reduceLeDiff, Nat.reduceBEq, Nat.reduceBNe, Int.reduceToNat, Int.reduceLT, Int.reduceLE, Int.reduceEq, Int.reduceBNe, Int.reduceBEq, Int.reduceAdd, Int.reduceSub, Int.reduceMul, Int.reduceNeg, ↓reduceIte, List.length_map]
  omega
theorem twinReply_frozen (x : ReplyV) (h : x.fits) : Abs.Spec Tryz.prog 33 [] [.agg x.cells] [] (.agg x.cells) := by
  refine Spec.frozen (twinReply_spec x h) [0, 1] ?_ ?_
  · simp only [ReplyV.cells]
    rfl
  · intro r
    rcases r with _ | _ | r
    · rfl
    · rfl
    · rfl
structure StateV.small (s : StateV) : Prop where
  roll : s.roll.tiny
  book : s.book.small
  led : s.led.bs.length < 2 ^ 30
  ps : s.ps.length < 2 ^ 30
  calls : s.calls.length < 2 ^ 30
  bids : s.bids.length < 2 ^ 30
  seats : s.seats.length < 2 ^ 30
  rs : ∀ x ∈ s.seats, x.r.fits
def stRefs (s : StateV) : List D := [.int .i64 s.now, .int .i64 s.day, .int .i64 s.phase, .ref 0, .ref 1, .ref 2, .int .i64 s.book.next, .ref 3, .ref 4, .int .i64 s.led.last, .ref 5, .ref 6, .ref 7, .ref 8, .ref 9]
def stOwn (s : StateV) : List D := [.own 3 (s.roll.ms.map MemberV.cells), .own 12 (s.roll.ns.map InstV.cells), .own 4 (s.roll.xs.map AssetV.cells), .own 7 (s.book.ts.map TradeV.cells), .own 4 (s.book.qs.map PosV.cells), .own 4 (s.led.bs.map BalV.cells), .own 3 (pl s.ps), .own 4 (s.calls.map CallV.cells), .own 5 (s.bids.map BidV.cells), .own 7 (s.seats.map SeatV.cells)]
set_option maxRecDepth 8000 in
theorem twinState_spec (s : StateV) (hs : s.small) : Abs.Spec Tryz.prog 7 [] [.agg s.cells] (stOwn s) (.agg (stRefs s)) := by
  have h1 := twinRoll_spec s.roll hs.roll
  have h2 := twinBook_spec s.book hs.book
  have h3 := twinLed_spec s.led hs.led
  have e1 := hs.ps
  have e2 := hs.calls
  have e3 := hs.bids
  have e4 := hs.seats
  simp only [RollV.cells] at h1
  simp only [BookV.cells] at h2
  simp only [LedV.cells] at h3
  simp only [StateV.cells, stOwn, stRefs]
  refine Abs.Spec.go (n := 68) (np := 1) (rs := [.cell 2 41]) mixed Tryz.func7 rfl rfl rfl rfl rfl (by simp) (by simp) ?_
  simp only [go_sem, Nat.reduceAdd, Nat.reduceSub, Nat.reduceMul, Nat.reducePow, Nat.reduceEqDiff, Nat.reduceLT, Nat.reduceLeDiff, Nat.reduceBEq, Nat.reduceBNe, Int.reduceToNat, Int.reduceLT, Int.reduceLE, Int.reduceEq, Int.reduceBNe, Int.reduceBEq, Int.reduceAdd, Int.reduceSub, Int.reduceMul, Int.reduceNeg, ↓reduceIte]
  (repeat' (with_reducible first | refine And.intro ?_ ?_ | exact DrawN.mk (by kernel_rfl) | exact OkN.mk (by kernel_rfl))) <;> try omega
  refine CallN.gen [] [] false (by simp) ?_
  simp only [go_sem, Nat.reduceAdd, Nat.reduceSub, Nat.reduceMul, Nat.reducePow, Nat.reduceEqDiff, Nat.reduceLT, Nat.reduceLeDiff, Nat.reduceBEq, Nat.reduceBNe, Int.reduceToNat, Int.reduceLT, Int.reduceLE, Int.reduceEq, Int.reduceBNe, Int.reduceBEq, Int.reduceAdd, Int.reduceSub, Int.reduceMul, Int.reduceNeg, ↓reduceIte]
  refine CallG.intro h1 ?_
  simp only [go_sem, Nat.reduceAdd, Nat.reduceSub, Nat.reduceMul, Nat.reducePow, Nat.reduceEqDiff, Nat.reduceLT, Nat.reduceLeDiff, Nat.reduceBEq, Nat.reduceBNe, Int.reduceToNat, Int.reduceLT, Int.reduceLE, Int.reduceEq, Int.reduceBNe, Int.reduceBEq, Int.reduceAdd, Int.reduceSub, Int.reduceMul, Int.reduceNeg, ↓reduceIte]
  (repeat' (with_reducible first | refine And.intro ?_ ?_ | exact DrawN.mk (by kernel_rfl) | exact OkN.mk (by kernel_rfl))) <;> try omega
  refine CallN.gen [] [] false (by simp) ?_
  simp only [go_sem, Nat.reduceAdd, Nat.reduceSub, Nat.reduceMul, Nat.reducePow, Nat.reduceEqDiff, Nat.reduceLT, Nat.reduceLeDiff, Nat.reduceBEq, Nat.reduceBNe, Int.reduceToNat, Int.reduceLT, Int.reduceLE, Int.reduceEq, Int.reduceBNe, Int.reduceBEq, Int.reduceAdd, Int.reduceSub, Int.reduceMul, Int.reduceNeg, ↓reduceIte]
  refine CallG.intro h2 ?_
  simp only [go_sem, Nat.reduceAdd, Nat.reduceSub, Nat.reduceMul, Nat.reducePow, Nat.reduceEqDiff, Nat.reduceLT, Nat.reduceLeDiff, Nat.reduceBEq, Nat.reduceBNe, Int.reduceToNat, Int.reduceLT, Int.reduceLE, Int.reduceEq, Int.reduceBNe, Int.reduceBEq, Int.reduceAdd, Int.reduceSub, Int.reduceMul, Int.reduceNeg, ↓reduceIte]
  (repeat' (with_reducible first | refine And.intro ?_ ?_ | exact DrawN.mk (by kernel_rfl) | exact OkN.mk (by kernel_rfl))) <;> try omega
  refine CallN.gen [] [] false (by simp) ?_
  simp only [go_sem, Nat.reduceAdd, Nat.reduceSub, Nat.reduceMul, Nat.reducePow, Nat.reduceEqDiff, Nat.reduceLT, Nat.reduceLeDiff, Nat.reduceBEq, Nat.reduceBNe, Int.reduceToNat, Int.reduceLT, Int.reduceLE, Int.reduceEq, Int.reduceBNe, Int.reduceBEq, Int.reduceAdd, Int.reduceSub, Int.reduceMul, Int.reduceNeg, ↓reduceIte]
  refine CallG.intro h3 ?_
  simp only [go_sem, Nat.reduceAdd, Nat.reduceSub, Nat.reduceMul, Nat.reducePow, Nat.reduceEqDiff, Nat.reduceLT, Nat.reduceLeDiff, Nat.reduceBEq, Nat.reduceBNe, Int.reduceToNat, Int.reduceLT, Int.reduceLE, Int.reduceEq, Int.reduceBNe, Int.reduceBEq, Int.reduceAdd, Int.reduceSub, Int.reduceMul, Int.reduceNeg, ↓reduceIte, List.length_map]
  (repeat' (with_reducible first | refine And.intro ?_ ?_ | exact DrawN.mk (by kernel_rfl) | exact OkN.mk (by kernel_rfl))) <;> try omega
  refine LoopK.walk (S := Unit) s.seats.length [1, 2, 3] [32, 48, 160, 161, 162, 208, 209, 256, 352, 448, 544] (fun i _ => [(4, .int .i64 i)])
    (fun i _ => [(64, .box [.int .i64 s.now, .int .i64 s.day, .int .i64 s.phase, .ref 160, .ref 161, .ref 162, .int .i64 s.book.next, .ref 208, .ref 209, .int .i64 s.led.last, .ref 256, .ref 352, .ref 448, .ref 544, .ref 1056]), (1056, .own 7 ((s.seats.take i).map SeatV.cells))]) (fun _ _ => True) () (by simp only [go_sem, Nat.reduceAdd, Nat.reduceSub, Nat.reduceMul, Nat.reducePow, Nat.reduceEqDiff, Nat.reduceLT, Nat.reduceLeDiff, Nat.reduceBEq, Nat.reduceBNe, Int.reduceToNat, Int.reduceLT, Int.reduceLE, Int.reduceEq, Int.reduceBNe, Int.reduceBEq, Int.reduceAdd, Int.reduceSub, Int.reduceMul, Int.reduceNeg, ↓reduceIte] <;> exact rfl) (by simp only [go_sem, Nat.reduceAdd, Nat.reduceSub, Nat.reduceMul, Nat.reducePow, Nat.reduceEqDiff, Nat.reduceLT, Nat.reduceLeDiff, Nat.reduceBEq, Nat.reduceBNe, Int.reduceToNat, Int.reduceLT, Int.reduceLE, Int.reduceEq, Int.reduceBNe, Int.reduceBEq, Int.reduceAdd, Int.reduceSub, Int.reduceMul, Int.reduceNeg, ↓reduceIte] <;> exact rfl) trivial ?_ ?_ ?_
  · simp only [go_sem, Nat.reduceAdd, Nat.reduceSub, Nat.reduceMul, Nat.reducePow, Nat.reduceEqDiff, Nat.reduceLT, Nat.reduceLeDiff, Nat.reduceBEq, Nat.reduceBNe, Int.reduceToNat, Int.reduceLT, Int.reduceLE, Int.reduceEq, Int.reduceBNe, Int.reduceBEq, Int.reduceAdd, Int.reduceSub, Int.reduceMul, Int.reduceNeg, ↓reduceIte] <;> simp
  · intro i _ hi hdi hwi _
    have hm := map_at (c := SeatV.cells) s.seats hi
    have hr := twinReply_frozen s.seats[i].r (hs.rs _ (List.getElem_mem hi))
    have hnext : (s.seats.take (i + 1)).map SeatV.cells = (s.seats.take i).map SeatV.cells ++ [s.seats[i].cells] := by
      rw [List.take_succ_eq_append_getElem hi, List.map_append, List.map_cons, List.map_nil]
    have hlt : ((s.seats.take i).map SeatV.cells).length = i := by simp; omega
    simp only [SeatV.cells] at hm
    simp only [ReplyV.cells] at hr
    simp only [go_sem, Nat.reduceAdd, Nat.reduceSub, Nat.reduceMul, Nat.reducePow, Nat.reduceEqDiff, Nat.reduceLT, Nat.reduceLeDiff, Nat.reduceBEq, Nat.reduceBNe, Int.reduceToNat, Int.reduceLT, Int.reduceLE, Int.reduceEq, Int.reduceBNe, Int.reduceBEq, Int.reduceAdd, Int.reduceSub, Int.reduceMul, Int.reduceNeg, ↓reduceIte, hdi, hm, List.length_map]
    (repeat' (with_reducible first | refine And.intro ?_ ?_ | exact DrawN.mk (by kernel_rfl) | exact OkN.mk (by kernel_rfl))) <;> try omega
    refine CallN.pure hr ?_
    simp only [go_sem, Nat.reduceAdd, Nat.reduceSub, Nat.reduceMul, Nat.reducePow, Nat.reduceEqDiff, Nat.reduceLT, Nat.reduceLeDiff, Nat.reduceBEq, Nat.reduceBNe, Int.reduceToNat, Int.reduceLT, Int.reduceLE, Int.reduceEq, Int.reduceBNe, Int.reduceBEq, Int.reduceAdd, Int.reduceSub, Int.reduceMul, Int.reduceNeg, ↓reduceIte, hwi, hlt]
    (repeat' (with_reducible first | refine And.intro ?_ ?_ | exact DrawN.mk (by kernel_rfl) | exact OkN.mk (by kernel_rfl))) <;> try omega
    refine RoundK.step () hi trivial ?_
    simp only [go_sem, Nat.reduceAdd, Nat.reduceSub, Nat.reduceMul, Nat.reducePow, Nat.reduceEqDiff, Nat.reduceLT, Nat.reduceLeDiff, Nat.reduceBEq, Nat.reduceBNe, Int.reduceToNat, Int.reduceLT, Int.reduceLE, Int.reduceEq, Int.reduceBNe, Int.reduceBEq, Int.reduceAdd, Int.reduceSub, Int.reduceMul, Int.reduceNeg, ↓reduceIte, hnext, SeatV.cells]
  · intro _ hdx _
    have ht : (s.seats.take s.seats.length).map SeatV.cells = s.seats.map SeatV.cells := by rw [List.take_length]
    simp only [go_sem, Nat.reduceAdd, Nat.reduceSub, Nat.reduceMul, Nat.reducePow, Nat.reduceEqDiff, Nat.reduceLT, Nat.reduceLeDiff, Nat.reduceBEq, Nat.reduceBNe, Int.reduceToNat, Int.reduceLT, Int.reduceLE, Int.reduceEq, Int.reduceBNe, Int.reduceBEq, Int.reduceAdd, Int.reduceSub, Int.reduceMul, Int.reduceNeg, ↓reduceIte, hdx, List.length_map, ht]
end Go.Proofs.YtbllopdcbkeadaaGreat
set_option linter.unusedSimpArgs false
set_option linter.unusedVariables false
namespace Go.Proofs.YtbllopdcbkeadaaGreat
open Go.Abs
def AcctV.same (x y : AcctV) : Bool := x.kind == y.kind && (x.who == y.who && x.cur == y.cur)
theorem keepAcct_spec (x y : AcctV) : Abs.Spec Tryz.prog 138 [] [.agg x.cells, .agg y.cells] [] (.bool (x.same y)) := by
  simp only [AcctV.cells]
  refine Abs.Spec.go (n := 24) (np := 2) (rs := [.tmp 4]) mixed Tryz.func138 rfl rfl rfl rfl rfl (by simp) (by simp) ?_
  simp only [go_sem, Nat.reduceAdd, Nat.reduceSub, Nat.reduceMul, Nat.reducePow, Nat.reduceEqDiff, Nat.reduceLT, Nat.reduceLeDiff, Nat.reduceBEq, Nat.reduceBNe, Int.reduceToNat, Int.reduceLT, Int.reduceLE, Int.reduceEq, Int.reduceBNe, Int.reduceBEq, Int.reduceAdd, Int.reduceSub, Int.reduceMul, Int.reduceNeg, ↓reduceIte]
  repeat' (with_reducible first
      | refine And.intro ?_ ?_
      | exact DrawN.mk (by kernel_rfl)
      | exact OkN.mk (by kernel_rfl)
      | refine CallN.pure (by assumption) ?_
      | refine GuardK.splitDN (fun h => ?_) (fun h => ?_)
      | refine GuardK.splitD (fun h => ?_) (fun h => ?_)
      | refine CondE.splitDN (fun h => ?_) (fun h => ?_)
      | refine CondE.splitD (fun h => ?_) (fun h => ?_)
      | refine GuardK.splitN (fun h => ?_) (fun h => ?_)
      | refine GuardK.split (fun h => ?_) (fun h => ?_)
      | refine CondE.splitN (fun h => ?_) (fun h => ?_)
      | refine CondE.split (fun h => ?_) (fun h => ?_)
      | refine WeakK.id ?_
      | refine RoundK.next (by omega) ?_ ?_
      | exact trivial
      | simp only [*, go_sem, Nat.reduceAdd, Nat.reduceSub, Nat.reduceMul, Nat.reducePow, Nat.reduceEqDiff, Nat.reduceLT, Nat.reduceLeDiff, Nat.reduceBEq, Nat.reduceBNe, Int.reduceToNat, Int.reduceLT, Int.reduceLE, Int.reduceEq, Int.reduceBNe, Int.reduceBEq, Int.reduceAdd, Int.reduceSub, Int.reduceMul, Int.reduceNeg, ↓reduceIte])
  all_goals (simp_all [AcctV.same])
theorem same_iff {x y : AcctV} : x.same y = true ↔ x.kind = y.kind ∧ x.who = y.who ∧ x.cur = y.cur := by simp [AcctV.same]
end Go.Proofs.YtbllopdcbkeadaaGreat
set_option linter.unusedSimpArgs false
set_option linter.unusedVariables false
namespace Go.Proofs.YtbllopdcbkeadaaGreat
open Go.Abs
structure StateV.fit (s : StateV) : Prop where
  roll : s.roll.small
  book : s.book.small
  led : s.led.bs.length < 2 ^ 30
  ps : s.ps.length < 2 ^ 30
end Go.Proofs.YtbllopdcbkeadaaGreat
set_option linter.unusedSimpArgs false
set_option linter.unusedVariables false
namespace Go.Proofs.YtbllopdcbkeadaaGreat
open Go.Abs
end Go.Proofs.YtbllopdcbkeadaaGreat
set_option linter.unusedSimpArgs false
set_option linter.unusedVariables false
namespace Go.Proofs.YtbllopdcbkeadaaGreat
open Go.Abs
def addN (l : List Int) : Int := if inR (sumL l) then sumL l else 0
def inK (ks : List Int) (k : Int) : Bool := ks.any (· == k)
end Go.Proofs.YtbllopdcbkeadaaGreat
set_option linter.unusedSimpArgs false
set_option linter.unusedVariables false
namespace Go.Proofs.YtbllopdcbkeadaaGreat
open Go.Abs
end Go.Proofs.YtbllopdcbkeadaaGreat
