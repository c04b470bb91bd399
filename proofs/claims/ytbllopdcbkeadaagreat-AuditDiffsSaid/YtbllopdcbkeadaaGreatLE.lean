/- States, with all their rows. A book is right. A book is right: the whole. The reference's products; instruments by number. The positions that count, of a member and currency. What a member could lose, and its margin. A member's margin. The reference's rolls. No theorem of a claim. -/
import Derived.Test.YtbllopdcbkeadaaGreatLD
import Derived.Test.YtbllopdcbkeadaaGreatAbcOpen
import Derived.Test.YtbllopdcbkeadaaGreatLC
set_option linter.unusedSimpArgs false
set_option linter.unusedVariables false
namespace Go.Proofs.YtbllopdcbkeadaaGreat
open Go.Abs
def I64 (n : Int) : Prop := -9223372036854775808 ≤ n ∧ n ≤ 9223372036854775807
structure PosV where
  who : Int
  inst : Int
  qty : Int
  cost : Int
deriving DecidableEq
@[reducible] def PosV.cells (x : PosV) : List D := [.int .i64 x.who, .int .i64 x.inst, .int .i64 x.qty, .int .i64 x.cost]
def PosV.rng (x : PosV) : Prop := I64 x.who ∧ I64 x.inst ∧ I64 x.qty ∧ I64 x.cost
theorem fit_PosV (r : List D) (h : FitL [.int .i64, .int .i64, .int .i64, .int .i64] r) : ∃ x : PosV, x.rng ∧ r = x.cells := by
  simp only [FitL, Fit] at h
  obtain ⟨_, _, rfl, ⟨a0, rfl, r0⟩, _, _, rfl, ⟨a1, rfl, r1⟩, _, _, rfl, ⟨a2, rfl, r2⟩, _, _, rfl, ⟨a3, rfl, r3⟩, rfl⟩ := h
  exact ⟨⟨a0, a1, a2, a3⟩, ⟨r0, r1, r2, r3⟩, rfl⟩
structure TradeV where
  no : Int
  buyer : Int
  seller : Int
  inst : Int
  qty : Int
  price : Int
  off : Bool
deriving DecidableEq
@[reducible] def TradeV.cells (x : TradeV) : List D := [.int .i64 x.no, .int .i64 x.buyer, .int .i64 x.seller, .int .i64 x.inst, .int .i64 x.qty, .int .i64 x.price, .bool x.off]
def TradeV.rng (x : TradeV) : Prop := I64 x.no ∧ I64 x.buyer ∧ I64 x.seller ∧ I64 x.inst ∧ I64 x.qty ∧ I64 x.price
theorem fit_TradeV (r : List D) (h : FitL [.int .i64, .int .i64, .int .i64, .int .i64, .int .i64, .int .i64, .bool] r) : ∃ x : TradeV, x.rng ∧ r = x.cells := by
  simp only [FitL, Fit] at h
  obtain ⟨_, _, rfl, ⟨a0, rfl, r0⟩, _, _, rfl, ⟨a1, rfl, r1⟩, _, _, rfl, ⟨a2, rfl, r2⟩, _, _, rfl, ⟨a3, rfl, r3⟩, _, _, rfl, ⟨a4, rfl, r4⟩, _, _, rfl, ⟨a5, rfl, r5⟩, _, _, rfl, ⟨a6, rfl⟩, rfl⟩ := h
  exact ⟨⟨a0, a1, a2, a3, a4, a5, a6⟩, ⟨r0, r1, r2, r3, r4, r5⟩, rfl⟩
structure DueV where
  who : Int
  cur : Int
  amt : Int
deriving DecidableEq
@[reducible] def DueV.cells (x : DueV) : List D := [.int .i64 x.who, .int .i64 x.cur, .int .i64 x.amt]
def DueV.rng (x : DueV) : Prop := I64 x.who ∧ I64 x.cur ∧ I64 x.amt
theorem fit_DueV (r : List D) (h : FitL [.int .i64, .int .i64, .int .i64] r) : ∃ x : DueV, x.rng ∧ r = x.cells := by
  simp only [FitL, Fit] at h
  obtain ⟨_, _, rfl, ⟨a0, rfl, r0⟩, _, _, rfl, ⟨a1, rfl, r1⟩, _, _, rfl, ⟨a2, rfl, r2⟩, rfl⟩ := h
  exact ⟨⟨a0, a1, a2⟩, ⟨r0, r1, r2⟩, rfl⟩
structure CallV where
  who : Int
  cur : Int
  amt : Int
  till : Int
deriving DecidableEq
@[reducible] def CallV.cells (x : CallV) : List D := [.int .i64 x.who, .int .i64 x.cur, .int .i64 x.amt, .int .i64 x.till]
def CallV.rng (x : CallV) : Prop := I64 x.who ∧ I64 x.cur ∧ I64 x.amt ∧ I64 x.till
theorem fit_CallV (r : List D) (h : FitL [.int .i64, .int .i64, .int .i64, .int .i64] r) : ∃ x : CallV, x.rng ∧ r = x.cells := by
  simp only [FitL, Fit] at h
  obtain ⟨_, _, rfl, ⟨a0, rfl, r0⟩, _, _, rfl, ⟨a1, rfl, r1⟩, _, _, rfl, ⟨a2, rfl, r2⟩, _, _, rfl, ⟨a3, rfl, r3⟩, rfl⟩ := h
  exact ⟨⟨a0, a1, a2, a3⟩, ⟨r0, r1, r2, r3⟩, rfl⟩
structure BidV where
  who : Int
  inst : Int
  src : Int
  qty : Int
  price : Int
deriving DecidableEq
@[reducible] def BidV.cells (x : BidV) : List D := [.int .i64 x.who, .int .i64 x.inst, .int .i64 x.src, .int .i64 x.qty, .int .i64 x.price]
def BidV.rng (x : BidV) : Prop := I64 x.who ∧ I64 x.inst ∧ I64 x.src ∧ I64 x.qty ∧ I64 x.price
theorem fit_BidV (r : List D) (h : FitL [.int .i64, .int .i64, .int .i64, .int .i64, .int .i64] r) : ∃ x : BidV, x.rng ∧ r = x.cells := by
  simp only [FitL, Fit] at h
  obtain ⟨_, _, rfl, ⟨a0, rfl, r0⟩, _, _, rfl, ⟨a1, rfl, r1⟩, _, _, rfl, ⟨a2, rfl, r2⟩, _, _, rfl, ⟨a3, rfl, r3⟩, _, _, rfl, ⟨a4, rfl, r4⟩, rfl⟩ := h
  exact ⟨⟨a0, a1, a2, a3, a4⟩, ⟨r0, r1, r2, r3, r4⟩, rfl⟩
structure FallV where
  cur : Int
  loss : Int
  c0 : Int
  c1 : Int
  c2 : Int
  c3 : Int
  c4 : Int
  rest : Int
deriving DecidableEq
@[reducible] def FallV.cells (x : FallV) : List D := [.int .i64 x.cur, .int .i64 x.loss, .int .i64 x.c0, .int .i64 x.c1, .int .i64 x.c2, .int .i64 x.c3, .int .i64 x.c4, .int .i64 x.rest]
def FallV.rng (x : FallV) : Prop := I64 x.cur ∧ I64 x.loss ∧ I64 x.c0 ∧ I64 x.c1 ∧ I64 x.c2 ∧ I64 x.c3 ∧ I64 x.c4 ∧ I64 x.rest
theorem fit_FallV (r : List D) (h : FitL [.int .i64, .int .i64, .int .i64, .int .i64, .int .i64, .int .i64, .int .i64, .int .i64] r) : ∃ x : FallV, x.rng ∧ r = x.cells := by
  simp only [FitL, Fit] at h
  obtain ⟨_, _, rfl, ⟨a0, rfl, r0⟩, _, _, rfl, ⟨a1, rfl, r1⟩, _, _, rfl, ⟨a2, rfl, r2⟩, _, _, rfl, ⟨a3, rfl, r3⟩, _, _, rfl, ⟨a4, rfl, r4⟩, _, _, rfl, ⟨a5, rfl, r5⟩, _, _, rfl, ⟨a6, rfl, r6⟩, _, _, rfl, ⟨a7, rfl, r7⟩, rfl⟩ := h
  exact ⟨⟨a0, a1, a2, a3, a4, a5, a6, a7⟩, ⟨r0, r1, r2, r3, r4, r5, r6, r7⟩, rfl⟩
def MemberV.rng (x : MemberV) : Prop := I64 x.no ∧ I64 x.state ∧ I64 x.need
theorem fit_MemberV (r : List D) (h : FitL [.int .i64, .int .i64, .int .i64] r) : ∃ x : MemberV, x.rng ∧ r = x.cells := by
  simp only [FitL, Fit] at h
  obtain ⟨_, _, rfl, ⟨a0, rfl, r0⟩, _, _, rfl, ⟨a1, rfl, r1⟩, _, _, rfl, ⟨a2, rfl, r2⟩, rfl⟩ := h
  exact ⟨⟨a0, a1, a2⟩, ⟨r0, r1, r2⟩, rfl⟩
def InstV.rng (x : InstV) : Prop := I64 x.no ∧ I64 x.cur ∧ I64 x.mult ∧ I64 x.add ∧ I64 x.set ∧ I64 x.price ∧ I64 x.s0 ∧ I64 x.s1 ∧ I64 x.s2 ∧ I64 x.s3 ∧ I64 x.s4 ∧ I64 x.s5
theorem fit_InstV (r : List D) (h : FitL [.int .i64, .int .i64, .int .i64, .int .i64, .int .i64, .int .i64, .int .i64, .int .i64, .int .i64, .int .i64, .int .i64, .int .i64] r) : ∃ x : InstV, x.rng ∧ r = x.cells := by
  simp only [FitL, Fit] at h
  obtain ⟨_, _, rfl, ⟨a0, rfl, r0⟩, _, _, rfl, ⟨a1, rfl, r1⟩, _, _, rfl, ⟨a2, rfl, r2⟩, _, _, rfl, ⟨a3, rfl, r3⟩, _, _, rfl, ⟨a4, rfl, r4⟩, _, _, rfl, ⟨a5, rfl, r5⟩, _, _, rfl, ⟨a6, rfl, r6⟩, _, _, rfl, ⟨a7, rfl, r7⟩, _, _, rfl, ⟨a8, rfl, r8⟩, _, _, rfl, ⟨a9, rfl, r9⟩, _, _, rfl, ⟨a10, rfl, r10⟩, _, _, rfl, ⟨a11, rfl, r11⟩, rfl⟩ := h
  exact ⟨⟨a0, a1, a2, a3, a4, a5, a6, a7, a8, a9, a10, a11⟩, ⟨r0, r1, r2, r3, r4, r5, r6, r7, r8, r9, r10, r11⟩, rfl⟩
def AssetV.rng (x : AssetV) : Prop := I64 x.a ∧ I64 x.b ∧ I64 x.c ∧ I64 x.d
theorem fit_AssetV (r : List D) (h : FitL [.int .i64, .int .i64, .int .i64, .int .i64] r) : ∃ x : AssetV, x.rng ∧ r = x.cells := by
  simp only [FitL, Fit] at h
  obtain ⟨_, _, rfl, ⟨a0, rfl, r0⟩, _, _, rfl, ⟨a1, rfl, r1⟩, _, _, rfl, ⟨a2, rfl, r2⟩, _, _, rfl, ⟨a3, rfl, r3⟩, rfl⟩ := h
  exact ⟨⟨a0, a1, a2, a3⟩, ⟨r0, r1, r2, r3⟩, rfl⟩
def BalV.rng (x : BalV) : Prop := I64 x.kind ∧ I64 x.who ∧ I64 x.cur ∧ I64 x.sum
theorem fit_BalV (r : List D) (h : FitL [.int .i64, .int .i64, .int .i64, .int .i64] r) : ∃ x : BalV, x.rng ∧ r = x.cells := by
  simp only [FitL, Fit] at h
  obtain ⟨_, _, rfl, ⟨a0, rfl, r0⟩, _, _, rfl, ⟨a1, rfl, r1⟩, _, _, rfl, ⟨a2, rfl, r2⟩, _, _, rfl, ⟨a3, rfl, r3⟩, rfl⟩ := h
  exact ⟨⟨a0, a1, a2, a3⟩, ⟨r0, r1, r2, r3⟩, rfl⟩
def Plg.rng (x : Plg) : Prop := I64 x.who ∧ I64 x.asset ∧ I64 x.units
theorem fit_Plg (r : List D) (h : FitL [.int .i64, .int .i64, .int .i64] r) : ∃ x : Plg, x.rng ∧ r = x.cells := by
  simp only [FitL, Fit] at h
  obtain ⟨_, _, rfl, ⟨a0, rfl, r0⟩, _, _, rfl, ⟨a1, rfl, r1⟩, _, _, rfl, ⟨a2, rfl, r2⟩, rfl⟩ := h
  exact ⟨⟨a0, a1, a2⟩, ⟨r0, r1, r2⟩, rfl⟩
structure ReplyV where
  code : Int
  no : Int
  amt : Int
  dues : List DueV
  falls : List FallV
deriving DecidableEq
@[reducible] def ReplyV.cells (x : ReplyV) : List D := [.int .i64 x.code, .int .i64 x.no, .int .i64 x.amt, .sl 3 (x.dues.map DueV.cells), .sl 8 (x.falls.map FallV.cells)]
def ReplyV.fits (x : ReplyV) : Prop := 24 * x.dues.length ≤ 140737488355328 ∧ 64 * x.falls.length ≤ 140737488355328
def ReplyV.rng (x : ReplyV) : Prop := I64 x.code ∧ I64 x.no ∧ I64 x.amt ∧ (∀ d ∈ x.dues, d.rng) ∧ (∀ f ∈ x.falls, f.rng) ∧ x.fits
structure SeatV where
  client : Int
  seq : Int
  r : ReplyV
deriving DecidableEq
@[reducible] def SeatV.cells (x : SeatV) : List D := [.int .i64 x.client, .int .i64 x.seq, .int .i64 x.r.code, .int .i64 x.r.no, .int .i64 x.r.amt, .sl 3 (x.r.dues.map DueV.cells), .sl 8 (x.r.falls.map FallV.cells)]
def SeatV.rng (x : SeatV) : Prop := I64 x.client ∧ I64 x.seq ∧ x.r.rng
structure BookV where
  next : Int
  ts : List TradeV
  qs : List PosV
@[reducible] def BookV.cells (b : BookV) : List D := [.int .i64 b.next, .sl 7 (b.ts.map TradeV.cells), .sl 4 (b.qs.map PosV.cells)]
structure StateV where
  now : Int
  day : Int
  phase : Int
  roll : RollV
  book : BookV
  led : LedV
  ps : List Plg
  calls : List CallV
  bids : List BidV
  seats : List SeatV
@[reducible] def StateV.cells (s : StateV) : List D := [.int .i64 s.now, .int .i64 s.day, .int .i64 s.phase, .sl 3 (s.roll.ms.map MemberV.cells), .sl 12 (s.roll.ns.map InstV.cells), .sl 4 (s.roll.xs.map AssetV.cells), .int .i64 s.book.next, .sl 7 (s.book.ts.map TradeV.cells), .sl 4 (s.book.qs.map PosV.cells),
  .int .i64 s.led.last, .sl 4 (s.led.bs.map BalV.cells), .sl 3 (pl s.ps), .sl 4 (s.calls.map CallV.cells), .sl 5 (s.bids.map BidV.cells), .sl 7 (s.seats.map SeatV.cells)]
structure StateV.rng (s : StateV) : Prop where
  now : I64 s.now
  day : I64 s.day
  phase : I64 s.phase
  ms : ∀ x ∈ s.roll.ms, x.rng
  ns : ∀ x ∈ s.roll.ns, x.rng
  xs : ∀ x ∈ s.roll.xs, x.rng
  next : I64 s.book.next
  ts : ∀ x ∈ s.book.ts, x.rng
  qs : ∀ x ∈ s.book.qs, x.rng
  last : I64 s.led.last
  bs : ∀ x ∈ s.led.bs, x.rng
  ps : ∀ x ∈ s.ps, x.rng
  calls : ∀ x ∈ s.calls, x.rng
  bids : ∀ x ∈ s.bids, x.rng
  seats : ∀ x ∈ s.seats, x.rng
theorem fit_SeatV (r : List D) (h : FitL [.int .i64, .int .i64, .int .i64, .int .i64, .int .i64, .sl 3 [.int .i64, .int .i64, .int .i64], .sl 8 [.int .i64, .int .i64, .int .i64, .int .i64, .int .i64, .int .i64, .int .i64, .int .i64]] r) : ∃ x : SeatV, x.rng ∧ r = x.cells := by
  obtain ⟨_, _, rfl, ⟨a, rfl, r0⟩, _, _, rfl, ⟨b, rfl, r1⟩, _, _, rfl, ⟨c, rfl, r2⟩, _, _, rfl, ⟨d, rfl, r3⟩, _, _, rfl, ⟨e, rfl, r4⟩, _, _, rfl, ⟨ds, rfl, f5⟩, _, _, rfl, ⟨fs, rfl, f6⟩, rfl⟩ := h
  obtain ⟨b5, f5⟩ := f5
  obtain ⟨b6, f6⟩ := f6
  obtain ⟨ds, rfl, r5⟩ := rows_of (c := DueV.cells) fit_DueV f5
  obtain ⟨fs, rfl, r6⟩ := rows_of (c := FallV.cells) fit_FallV f6
  have e1 : bytesL [.int .i64, .int .i64, .int .i64] = 24 := rfl
  have e2 : bytesL [.int .i64, .int .i64, .int .i64, .int .i64, .int .i64, .int .i64, .int .i64, .int .i64] = 64 := rfl
  have e3 : reachBytes = 140737488351232 := rfl
  rw [e1, e3, List.length_map] at b5
  rw [e2, e3, List.length_map] at b6
  exact ⟨⟨a, b, c, d, e, ds, fs⟩, ⟨r0, r1, r2, r3, r4, r5, r6, by simp only; omega, by simp only; omega⟩, rfl⟩
theorem fit_state {ds : List D} (h : FitL [.int .i64, .int .i64, .int .i64, .sl 3 [.int .i64, .int .i64, .int .i64], .sl 12 [.int .i64, .int .i64, .int .i64, .int .i64, .int .i64, .int .i64, .int .i64, .int .i64, .int .i64, .int .i64, .int .i64, .int .i64], .sl 4 [.int .i64, .int .i64, .int .i64, .int .i64], .int .i64, .sl 7 [.int .i64, .int .i64, .int .i64, .int .i64, .int .i64, .int .i64, .bool], .sl 4 [.int .i64, .int .i64, .int .i64, .int .i64], .int .i64, .sl 4 [.int .i64, .int .i64, .int .i64, .int .i64], .sl 3 [.int .i64, .int .i64, .int .i64], .sl 4 [.int .i64, .int .i64, .int .i64, .int .i64], .sl 5 [.int .i64, .int .i64, .int .i64, .int .i64, .int .i64], .sl 7 [.int .i64, .int .i64, .int .i64, .int .i64, .int .i64, .sl 3 [.int .i64, .int .i64, .int .i64], .sl 8 [.int .i64, .int .i64, .int .i64, .int .i64, .int .i64, .int .i64, .int .i64, .int .i64]]] ds) : ∃ x : StateV, x.rng ∧ ds = x.cells := by
  obtain ⟨_, _, rfl, ⟨a0, rfl, r0⟩, _, _, rfl, ⟨a1, rfl, r1⟩, _, _, rfl, ⟨a2, rfl, r2⟩, _, _, rfl, ⟨a3, rfl, q3⟩, _, _, rfl, ⟨a4, rfl, q4⟩, _, _, rfl, ⟨a5, rfl, q5⟩, _, _, rfl, ⟨a6, rfl, r6⟩, _, _, rfl, ⟨a7, rfl, q7⟩, _, _, rfl, ⟨a8, rfl, q8⟩, _, _, rfl, ⟨a9, rfl, r9⟩, _, _, rfl, ⟨a10, rfl, q10⟩, _, _, rfl, ⟨a11, rfl, q11⟩, _, _, rfl, ⟨a12, rfl, q12⟩, _, _, rfl, ⟨a13, rfl, q13⟩, _, _, rfl, ⟨a14, rfl, q14⟩, rfl⟩ := h
  obtain ⟨a3, rfl, r3⟩ := rows_of (c := MemberV.cells) fit_MemberV q3.2
  obtain ⟨a4, rfl, r4⟩ := rows_of (c := InstV.cells) fit_InstV q4.2
  obtain ⟨a5, rfl, r5⟩ := rows_of (c := AssetV.cells) fit_AssetV q5.2
  obtain ⟨a7, rfl, r7⟩ := rows_of (c := TradeV.cells) fit_TradeV q7.2
  obtain ⟨a8, rfl, r8⟩ := rows_of (c := PosV.cells) fit_PosV q8.2
  obtain ⟨a10, rfl, r10⟩ := rows_of (c := BalV.cells) fit_BalV q10.2
  obtain ⟨a11, rfl, r11⟩ := rows_of (c := Plg.cells) fit_Plg q11.2
  obtain ⟨a12, rfl, r12⟩ := rows_of (c := CallV.cells) fit_CallV q12.2
  obtain ⟨a13, rfl, r13⟩ := rows_of (c := BidV.cells) fit_BidV q13.2
  obtain ⟨a14, rfl, r14⟩ := rows_of (c := SeatV.cells) fit_SeatV q14.2
  exact ⟨⟨a0, a1, a2, ⟨a3, a4, a5⟩, ⟨a6, a7, a8⟩, ⟨a9, a10⟩, a11, a12, a13, a14⟩, ⟨r0, r1, r2, r3, r4, r5, r6, r7, r8, r9, r10, r11, r12, r13, r14⟩, rfl⟩
end Go.Proofs.YtbllopdcbkeadaaGreat
set_option linter.unusedSimpArgs false
set_option linter.unusedVariables false
namespace Go.Proofs.YtbllopdcbkeadaaGreat
open Go.Abs
/-- each is right, and stands behind the one ahead of it -/
def chAt {A : Type} (ok : A → Bool) (lt : A → A → Bool) (xs : List A) (i : Nat) : Bool :=
  match xs[i]? with
  | none => true
  | some b => ok b && (match i with
    | 0 => true
    | j + 1 => match xs[j]? with
      | some q => lt q b
      | none => true)
def chB {A : Type} (ok : A → Bool) (lt : A → A → Bool) (xs : List A) : Bool := (List.range xs.length).all (chAt ok lt xs)
section
variable {A : Type} {ok : A → Bool} {lt : A → A → Bool} {xs : List A}
theorem chAt_zero (h : 0 < xs.length) : chAt ok lt xs 0 = ok xs[0] := by simp [chAt, h]
theorem chAt_succ {j : Nat} (h : j + 1 < xs.length) : chAt ok lt xs (j + 1) = (ok xs[j + 1] && lt (xs[j]'(by omega)) xs[j + 1]) := by
  have h' : j < xs.length := by omega
  simp [chAt, h, h']
theorem chB_no {i : Nat} (h : i < xs.length) (hn : chAt ok lt xs i = false) : chB ok lt xs = false := by
  cases hc : chB ok lt xs
  · rfl
  · rw [List.all_eq_true.1 hc i (List.mem_range.2 h)] at hn; cases hn
theorem chB_yes (h : ∀ i < xs.length, chAt ok lt xs i = true) : chB ok lt xs = true := List.all_eq_true.2 fun i hi => h i (List.mem_range.1 hi)
theorem ch_next {i : Nat} (hI : ∀ j < i, chAt ok lt xs j = true) (h0 : chAt ok lt xs i = true) : ∀ k < i + 1, chAt ok lt xs k = true := fun k hk => by
  rcases Nat.lt_or_ge k i with h | h
  · exact hI k h
  · obtain rfl : k = i := by omega
    exact h0
end
def keyB (w n : Int) : Bool := within w 1 16 && within n 1 8
def keyL (a b c d : Int) : Bool := decide (a < c) || (a == c && decide (b < d))
theorem rightKey_spec (w n : Int) : Abs.Spec Tryz.prog 125 [] [.agg [.int .i64 w, .int .i64 n]] [] (.bool (keyB w n)) := by
  refine Abs.Spec.go (n := 21) (np := 1) (rs := [.tmp 2]) mixed Tryz.func125 rfl rfl rfl rfl rfl (by simp) (by simp) ?_
  simp only [go_sem, Nat.reduceAdd, Nat.reduceSub, Nat.reduceMul, Nat.reducePow, Nat.reduceEqDiff, Nat.reduceLT, Nat.reduceLeDiff, Nat.reduceBEq, Nat.reduceBNe, Int.reduceToNat, Int.reduceLT, Int.reduceLE, Int.reduceEq, Int.reduceBNe, Int.reduceBEq, Int.reduceAdd, Int.reduceSub, Int.reduceMul, Int.reduceNeg, ↓reduceIte]
  repeat' (with_reducible first
      | refine And.intro ?_ ?_
      | exact DrawN.mk (by kernel_rfl)
      | exact OkN.mk (by kernel_rfl)
      | refine CallN.pure (by assumption) ?_
      | refine GuardK.splitDN (fun h => ?_) (fun h => ?_)
      | refine GuardK.splitD (fun h => ?_) (fun h => ?_)
      | refine CondE.splitDN (fun h => ?_) (fun h => ?_)
      | refine CondE.splitD (fun h => ?_) (fun h => ?_)
      | refine GuardK.splitN (fun h => ?_) (fun h => ?_)
      | refine GuardK.split (fun h => ?_) (fun h => ?_)
      | refine CondE.splitN (fun h => ?_) (fun h => ?_)
      | refine CondE.split (fun h => ?_) (fun h => ?_)
      | refine WeakK.id ?_
      | refine RoundK.next (by omega) ?_ ?_
      | exact trivial
      | simp only [*, go_sem, Nat.reduceAdd, Nat.reduceSub, Nat.reduceMul, Nat.reducePow, Nat.reduceEqDiff, Nat.reduceLT, Nat.reduceLeDiff, Nat.reduceBEq, Nat.reduceBNe, Int.reduceToNat, Int.reduceLT, Int.reduceLE, Int.reduceEq, Int.reduceBNe, Int.reduceBEq, Int.reduceAdd, Int.reduceSub, Int.reduceMul, Int.reduceNeg, ↓reduceIte])
  all_goals (simp_all [keyB, within]; try omega)
theorem keyLess_spec (a b c d : Int) : Abs.Spec Tryz.prog 126 [] [.agg [.int .i64 a, .int .i64 b], .agg [.int .i64 c, .int .i64 d]] [] (.bool (keyL a b c d)) := by
  refine Abs.Spec.go (n := 24) (np := 2) (rs := [.tmp 4]) mixed Tryz.func126 rfl rfl rfl rfl rfl (by simp) (by simp) ?_
  simp only [go_sem, Nat.reduceAdd, Nat.reduceSub, Nat.reduceMul, Nat.reducePow, Nat.reduceEqDiff, Nat.reduceLT, Nat.reduceLeDiff, Nat.reduceBEq, Nat.reduceBNe, Int.reduceToNat, Int.reduceLT, Int.reduceLE, Int.reduceEq, Int.reduceBNe, Int.reduceBEq, Int.reduceAdd, Int.reduceSub, Int.reduceMul, Int.reduceNeg, ↓reduceIte]
  repeat' (with_reducible first
      | refine And.intro ?_ ?_
      | exact DrawN.mk (by kernel_rfl)
      | exact OkN.mk (by kernel_rfl)
      | refine CallN.pure (by assumption) ?_
      | refine GuardK.splitDN (fun h => ?_) (fun h => ?_)
      | refine GuardK.splitD (fun h => ?_) (fun h => ?_)
      | refine CondE.splitDN (fun h => ?_) (fun h => ?_)
      | refine CondE.splitD (fun h => ?_) (fun h => ?_)
      | refine GuardK.splitN (fun h => ?_) (fun h => ?_)
      | refine GuardK.split (fun h => ?_) (fun h => ?_)
      | refine CondE.splitN (fun h => ?_) (fun h => ?_)
      | refine CondE.split (fun h => ?_) (fun h => ?_)
      | refine WeakK.id ?_
      | refine RoundK.next (by omega) ?_ ?_
      | exact trivial
      | simp only [*, go_sem, Nat.reduceAdd, Nat.reduceSub, Nat.reduceMul, Nat.reducePow, Nat.reduceEqDiff, Nat.reduceLT, Nat.reduceLeDiff, Nat.reduceBEq, Nat.reduceBNe, Int.reduceToNat, Int.reduceLT, Int.reduceLE, Int.reduceEq, Int.reduceBNe, Int.reduceBEq, Int.reduceAdd, Int.reduceSub, Int.reduceMul, Int.reduceNeg, ↓reduceIte])
  all_goals (simp only [keyL]; simp_all)
def TradeV.okB (t : TradeV) : Bool := within t.qty 1 1048576 && (within t.price 1 1073741824 && (t.buyer != t.seller && (keyB t.buyer t.inst && keyB t.seller t.inst)))
theorem rightTrade_spec (t : TradeV) : Abs.Spec Tryz.prog 127 [] [.agg t.cells] [] (.bool t.okB) := by
  have h1 := rightKey_spec t.buyer t.inst
  have h2 := rightKey_spec t.seller t.inst
  simp only [TradeV.cells]
  refine Abs.Spec.go (n := 44) (np := 1) (rs := [.tmp 2]) mixed Tryz.func127 rfl rfl rfl rfl rfl (by simp) (by simp) ?_
  simp only [go_sem, Nat.reduceAdd, Nat.reduceSub, Nat.reduceMul, Nat.reducePow, Nat.reduceEqDiff, Nat.reduceLT, Nat.reduceLeDiff, Nat.reduceBEq, Nat.reduceBNe, Int.reduceToNat, Int.reduceLT, Int.reduceLE, Int.reduceEq, Int.reduceBNe, Int.reduceBEq, Int.reduceAdd, Int.reduceSub, Int.reduceMul, Int.reduceNeg, ↓reduceIte]
  repeat' (with_reducible first
      | refine And.intro ?_ ?_
      | exact DrawN.mk (by kernel_rfl)
      | exact OkN.mk (by kernel_rfl)
      | refine CallN.pure (by assumption) ?_
      | refine CallN.pure (h1) ?_
      | refine CallN.pure (h2) ?_
      | refine GuardK.splitDN (fun h => ?_) (fun h => ?_)
      | refine GuardK.splitD (fun h => ?_) (fun h => ?_)
      | refine CondE.splitDN (fun h => ?_) (fun h => ?_)
      | refine CondE.splitD (fun h => ?_) (fun h => ?_)
      | refine GuardK.splitN (fun h => ?_) (fun h => ?_)
      | refine GuardK.split (fun h => ?_) (fun h => ?_)
      | refine CondE.splitN (fun h => ?_) (fun h => ?_)
      | refine CondE.split (fun h => ?_) (fun h => ?_)
      | refine WeakK.id ?_
      | refine RoundK.next (by omega) ?_ ?_
      | exact trivial
      | simp only [*, go_sem, Nat.reduceAdd, Nat.reduceSub, Nat.reduceMul, Nat.reducePow, Nat.reduceEqDiff, Nat.reduceLT, Nat.reduceLeDiff, Nat.reduceBEq, Nat.reduceBNe, Int.reduceToNat, Int.reduceLT, Int.reduceLE, Int.reduceEq, Int.reduceBNe, Int.reduceBEq, Int.reduceAdd, Int.reduceSub, Int.reduceMul, Int.reduceNeg, ↓reduceIte])
  all_goals first
    | (simp_all [TradeV.okB, within, bne]; done)
    | (rw [Bool.eq_iff_iff]; simp_all [TradeV.okB, within]; omega)
def PosV.okB (p : PosV) : Bool := keyB p.who p.inst && (within p.qty (-1099511627776) 1099511627776 && (inR p.cost && !(p.qty == 0 && p.cost == 0)))
def posLt (a b : PosV) : Bool := keyL a.who a.inst b.who b.inst
def qtysL (n : Int) (l : List PosV) : List Int := (l.filter (·.inst == n)).map PosV.qty
def level1 (n : Int) (l : List PosV) : Bool := sumE (qtysL n l) == 0 && sumN (qtysL n l) == 0
def levelB (l : List PosV) : Bool := (List.range 8).all fun i => level1 ((i : Int) + 1) l
theorem qtysL_step (n : Int) (l : List PosV) {i : Nat} (h : i < l.length) : qtysL n (l.take (i + 1)) = if l[i].inst == n then qtysL n (l.take i) ++ [l[i].qty] else qtysL n (l.take i) := by
  simp only [qtysL]
  rw [List.take_succ_eq_append_getElem h, List.filter_append, List.map_append]
  cases hb : l[i].inst == n <;> simp [List.filter, hb]
theorem qtysL_len (n : Int) (l : List PosV) : (qtysL n l).length ≤ l.length := by
  simp only [qtysL, List.length_map]; exact List.length_filter_le _ _
theorem level_spec (l : List PosV) (hl : l.length < 2 ^ 30) : Abs.Spec Tryz.prog 128 [] [.sl 4 (l.map PosV.cells)] [] (.bool (levelB l)) := by
  refine Abs.Spec.go (n := 41) (np := 1) (rs := [.tmp 2]) mixed Tryz.func128 rfl rfl rfl rfl rfl (by simp) (by simp) ?_
  simp only [go_sem, Nat.reduceAdd, Nat.reduceSub, Nat.reduceMul, Nat.reducePow, Nat.reduceEqDiff, Nat.reduceLT, Nat.reduceLeDiff, Nat.reduceBEq, Nat.reduceBNe, Int.reduceToNat, Int.reduceLT, Int.reduceLE, Int.reduceEq, Int.reduceBNe, Int.reduceBEq, Int.reduceAdd, Int.reduceSub, Int.reduceMul, Int.reduceNeg, ↓reduceIte]
  refine LoopK.count 8 [0] [] (fun i => [(3, .int .i64 ((i : Int) + 1))]) (fun i => []) (fun i => ∀ j < i, level1 ((j : Int) + 1) l = true) (by simp only [go_sem, Nat.reduceAdd, Nat.reduceSub, Nat.reduceMul, Nat.reducePow, Nat.reduceEqDiff, Nat.reduceLT, Nat.reduceLeDiff, Nat.reduceBEq, Nat.reduceBNe, Int.reduceToNat, Int.reduceLT, Int.reduceLE, Int.reduceEq, Int.reduceBNe, Int.reduceBEq, Int.reduceAdd, Int.reduceSub, Int.reduceMul, Int.reduceNeg, ↓reduceIte] <;> exact rfl) (by simp only [go_sem, Nat.reduceAdd, Nat.reduceSub, Nat.reduceMul, Nat.reducePow, Nat.reduceEqDiff, Nat.reduceLT, Nat.reduceLeDiff, Nat.reduceBEq, Nat.reduceBNe, Int.reduceToNat, Int.reduceLT, Int.reduceLE, Int.reduceEq, Int.reduceBNe, Int.reduceBEq, Int.reduceAdd, Int.reduceSub, Int.reduceMul, Int.reduceNeg, ↓reduceIte] <;> exact rfl) (by simp) ?_ ?_
  · simp only [go_sem, Nat.reduceAdd, Nat.reduceSub, Nat.reduceMul, Nat.reducePow, Nat.reduceEqDiff, Nat.reduceLT, Nat.reduceLeDiff, Nat.reduceBEq, Nat.reduceBNe, Int.reduceToNat, Int.reduceLT, Int.reduceLE, Int.reduceEq, Int.reduceBNe, Int.reduceBEq, Int.reduceAdd, Int.reduceSub, Int.reduceMul, Int.reduceNeg, ↓reduceIte] <;> simp
  intro c hc hI
  rcases Nat.lt_or_ge c 8 with hc' | hc'
  case inr =>
    obtain rfl : c = 8 := by omega
    have e : levelB l = true := List.all_eq_true.2 fun j hj => hI j (List.mem_range.1 hj)
    simp only [go_sem, Nat.reduceAdd, Nat.reduceSub, Nat.reduceMul, Nat.reducePow, Nat.reduceEqDiff, Nat.reduceLT, Nat.reduceLeDiff, Nat.reduceBEq, Nat.reduceBNe, Int.reduceToNat, Int.reduceLT, Int.reduceLE, Int.reduceEq, Int.reduceBNe, Int.reduceBEq, Int.reduceAdd, Int.reduceSub, Int.reduceMul, Int.reduceNeg, ↓reduceIte, e] <;> simp
  obtain ⟨n, hn⟩ : ∃ n, n = (c : Int) + 1 := ⟨_, rfl⟩
  have hd : decide (n ≤ 8) = true := decide_eq_true (by omega)
  have hw : IntKind.wrap .i64 (n + 1) = ((c + 1 : Nat) : Int) + 1 := by rw [wr64 (by omega) (by omega)]; omega
  rw [← hn]
  simp only [go_sem, Nat.reduceAdd, Nat.reduceSub, Nat.reduceMul, Nat.reducePow, Nat.reduceEqDiff, Nat.reduceLT, Nat.reduceLeDiff, Nat.reduceBEq, Nat.reduceBNe, Int.reduceToNat, Int.reduceLT, Int.reduceLE, Int.reduceEq, Int.reduceBNe, Int.reduceBEq, Int.reduceAdd, Int.reduceSub, Int.reduceMul, Int.reduceNeg, ↓reduceIte, hd, List.length_map]
  refine LoopK.walk (S := Unit) l.length [0, 3, 13, 14] [240] (fun i _ => [(15, .int .i64 i), (4, .ref 464)]) (fun i _ => [(464, .own 1 (ints (qtysL n (l.take i))))]) (fun _ _ => True) () (by simp only [go_sem, Nat.reduceAdd, Nat.reduceSub, Nat.reduceMul, Nat.reducePow, Nat.reduceEqDiff, Nat.reduceLT, Nat.reduceLeDiff, Nat.reduceBEq, Nat.reduceBNe, Int.reduceToNat, Int.reduceLT, Int.reduceLE, Int.reduceEq, Int.reduceBNe, Int.reduceBEq, Int.reduceAdd, Int.reduceSub, Int.reduceMul, Int.reduceNeg, ↓reduceIte] <;> exact rfl) (by simp only [go_sem, Nat.reduceAdd, Nat.reduceSub, Nat.reduceMul, Nat.reducePow, Nat.reduceEqDiff, Nat.reduceLT, Nat.reduceLeDiff, Nat.reduceBEq, Nat.reduceBNe, Int.reduceToNat, Int.reduceLT, Int.reduceLE, Int.reduceEq, Int.reduceBNe, Int.reduceBEq, Int.reduceAdd, Int.reduceSub, Int.reduceMul, Int.reduceNeg, ↓reduceIte] <;> exact rfl) trivial ?_ ?_ ?_
  · simp only [go_sem, Nat.reduceAdd, Nat.reduceSub, Nat.reduceMul, Nat.reducePow, Nat.reduceEqDiff, Nat.reduceLT, Nat.reduceLeDiff, Nat.reduceBEq, Nat.reduceBNe, Int.reduceToNat, Int.reduceLT, Int.reduceLE, Int.reduceEq, Int.reduceBNe, Int.reduceBEq, Int.reduceAdd, Int.reduceSub, Int.reduceMul, Int.reduceNeg, ↓reduceIte] <;> simp [qtysL, ints]
  · intro i _ hi hdi hwi _
    have hm := map_at (c := PosV.cells) l hi
    have hs := qtysL_step n l hi
    have hlen := qtysL_len n (l.take i)
    have hlt : (l.take i).length ≤ l.length := by simp; omega
    simp only [PosV.cells] at hm
    simp only [go_sem, Nat.reduceAdd, Nat.reduceSub, Nat.reduceMul, Nat.reducePow, Nat.reduceEqDiff, Nat.reduceLT, Nat.reduceLeDiff, Nat.reduceBEq, Nat.reduceBNe, Int.reduceToNat, Int.reduceLT, Int.reduceLE, Int.reduceEq, Int.reduceBNe, Int.reduceBEq, Int.reduceAdd, Int.reduceSub, Int.reduceMul, Int.reduceNeg, ↓reduceIte, hdi, hm]
    refine ⟨by omega, ?_⟩
    cases hb : l[i].inst == n
    · rw [hb] at hs
      simp only [Bool.false_eq_true, if_false] at hs
      simp only [go_sem, Nat.reduceAdd, Nat.reduceSub, Nat.reduceMul, Nat.reducePow, Nat.reduceEqDiff, Nat.reduceLT, Nat.reduceLeDiff, Nat.reduceBEq, Nat.reduceBNe, Int.reduceToNat, Int.reduceLT, Int.reduceLE, Int.reduceEq, Int.reduceBNe, Int.reduceBEq, Int.reduceAdd, Int.reduceSub, Int.reduceMul, Int.reduceNeg, ↓reduceIte, hwi]
      refine RoundK.step () hi trivial ?_
      simp only [go_sem, Nat.reduceAdd, Nat.reduceSub, Nat.reduceMul, Nat.reducePow, Nat.reduceEqDiff, Nat.reduceLT, Nat.reduceLeDiff, Nat.reduceBEq, Nat.reduceBNe, Int.reduceToNat, Int.reduceLT, Int.reduceLE, Int.reduceEq, Int.reduceBNe, Int.reduceBEq, Int.reduceAdd, Int.reduceSub, Int.reduceMul, Int.reduceNeg, ↓reduceIte, hs]
    · rw [hb, if_pos rfl] at hs
      simp only [go_sem, Nat.reduceAdd, Nat.reduceSub, Nat.reduceMul, Nat.reducePow, Nat.reduceEqDiff, Nat.reduceLT, Nat.reduceLeDiff, Nat.reduceBEq, Nat.reduceBNe, Int.reduceToNat, Int.reduceLT, Int.reduceLE, Int.reduceEq, Int.reduceBNe, Int.reduceBEq, Int.reduceAdd, Int.reduceSub, Int.reduceMul, Int.reduceNeg, ↓reduceIte, hwi, ints_len]
      refine ⟨by omega, RoundK.step () hi trivial ?_⟩
      simp only [go_sem, Nat.reduceAdd, Nat.reduceSub, Nat.reduceMul, Nat.reducePow, Nat.reduceEqDiff, Nat.reduceLT, Nat.reduceLeDiff, Nat.reduceBEq, Nat.reduceBNe, Int.reduceToNat, Int.reduceLT, Int.reduceLE, Int.reduceEq, Int.reduceBNe, Int.reduceBEq, Int.reduceAdd, Int.reduceSub, Int.reduceMul, Int.reduceNeg, ↓reduceIte, hs] <;> simp [ints]
  · intro _ hdx _
    have hlen := qtysL_len n l
    have hsum := sum_spec (qtysL n l) (by omega)
    have hbad : level1 n l = false → levelB l = false := fun hx => by
      cases hh : levelB l
      · rfl
      · have := List.all_eq_true.1 hh c (List.mem_range.2 hc')
        rw [← hn, hx] at this; cases this
    have hgood : level1 n l = true → ∀ j < c + 1, level1 ((j : Int) + 1) l = true := fun hx j hj => by
      rcases Nat.lt_or_ge j c with h | h
      · exact hI j h
      · obtain rfl : j = c := by omega
        rw [← hn]; exact hx
    simp only [go_sem, Nat.reduceAdd, Nat.reduceSub, Nat.reduceMul, Nat.reducePow, Nat.reduceEqDiff, Nat.reduceLT, Nat.reduceLeDiff, Nat.reduceBEq, Nat.reduceBNe, Int.reduceToNat, Int.reduceLT, Int.reduceLE, Int.reduceEq, Int.reduceBNe, Int.reduceBEq, Int.reduceAdd, Int.reduceSub, Int.reduceMul, Int.reduceNeg, ↓reduceIte, hdx, List.take_length]
    refine CallN.gen [] [] true (by simp) ?_
    simp only [go_sem, Nat.reduceAdd, Nat.reduceSub, Nat.reduceMul, Nat.reducePow, Nat.reduceEqDiff, Nat.reduceLT, Nat.reduceLeDiff, Nat.reduceBEq, Nat.reduceBNe, Int.reduceToNat, Int.reduceLT, Int.reduceLE, Int.reduceEq, Int.reduceBNe, Int.reduceBEq, Int.reduceAdd, Int.reduceSub, Int.reduceMul, Int.reduceNeg, ↓reduceIte]
    refine CallG.intro hsum ?_
    cases hE : sumE (qtysL n l) == 0
    · simp only [go_sem, Nat.reduceAdd, Nat.reduceSub, Nat.reduceMul, Nat.reducePow, Nat.reduceEqDiff, Nat.reduceLT, Nat.reduceLeDiff, Nat.reduceBEq, Nat.reduceBNe, Int.reduceToNat, Int.reduceLT, Int.reduceLE, Int.reduceEq, Int.reduceBNe, Int.reduceBEq, Int.reduceAdd, Int.reduceSub, Int.reduceMul, Int.reduceNeg, ↓reduceIte, bne, hE, hbad (by simp [level1, hE])]
    cases hN : sumN (qtysL n l) == 0
    · simp only [go_sem, Nat.reduceAdd, Nat.reduceSub, Nat.reduceMul, Nat.reducePow, Nat.reduceEqDiff, Nat.reduceLT, Nat.reduceLeDiff, Nat.reduceBEq, Nat.reduceBNe, Int.reduceToNat, Int.reduceLT, Int.reduceLE, Int.reduceEq, Int.reduceBNe, Int.reduceBEq, Int.reduceAdd, Int.reduceSub, Int.reduceMul, Int.reduceNeg, ↓reduceIte, bne, hE, hN, hbad (by simp [level1, hE, hN])]
    simp only [go_sem, Nat.reduceAdd, Nat.reduceSub, Nat.reduceMul, Nat.reducePow, Nat.reduceEqDiff, Nat.reduceLT, Nat.reduceLeDiff, Nat.reduceBEq, Nat.reduceBNe, Int.reduceToNat, Int.reduceLT, Int.reduceLE, Int.reduceEq, Int.reduceBNe, Int.reduceBEq, Int.reduceAdd, Int.reduceSub, Int.reduceMul, Int.reduceNeg, ↓reduceIte, bne, hE, hN, hw]
    refine RoundK.next hc' (hgood (by simp [level1, hE, hN])) ?_
    simp only [go_sem, Nat.reduceAdd, Nat.reduceSub, Nat.reduceMul, Nat.reducePow, Nat.reduceEqDiff, Nat.reduceLT, Nat.reduceLeDiff, Nat.reduceBEq, Nat.reduceBNe, Int.reduceToNat, Int.reduceLT, Int.reduceLE, Int.reduceEq, Int.reduceBNe, Int.reduceBEq, Int.reduceAdd, Int.reduceSub, Int.reduceMul, Int.reduceNeg, ↓reduceIte]
end Go.Proofs.YtbllopdcbkeadaaGreat
set_option linter.unusedSimpArgs false
set_option linter.unusedVariables false
namespace Go.Proofs.YtbllopdcbkeadaaGreat
open Go.Abs
def tradeOk (n : Int) (t : TradeV) : Bool := t.okB && (!decide (t.no < 1) && !decide (n < t.no))
def tradeLt (a b : TradeV) : Bool := decide (a.no < b.no)
def BookV.okB (b : BookV) : Bool := chB PosV.okB posLt b.qs && (chB (tradeOk b.next) tradeLt b.ts && (levelB b.qs && (!decide (128 < (b.ts.length : Int)) && (!decide (b.next < 0) && !decide (1099511627776 < b.next)))))
def BookV.small (b : BookV) : Prop := b.ts.length < 2 ^ 30 ∧ b.qs.length < 2 ^ 30
set_option maxRecDepth 8000 in
theorem bookCheck_spec (b : BookV) (hl : b.small) : Abs.Spec Tryz.prog 48 [] [.agg b.cells] [] (.int .i64 (if b.okB then 0 else 14)) := by
  obtain ⟨hl1, hl2⟩ := hl
  have hlev := level_spec b.qs (by omega)
  simp only [BookV.cells]
  refine Abs.Spec.go (n := 124) (np := 1) (rs := [.tmp 2]) mixed Tryz.func48 rfl rfl rfl rfl rfl (by simp) (by simp) ?_
  simp only [go_sem, Nat.reduceAdd, Nat.reduceSub, Nat.reduceMul, Nat.reducePow, Nat.reduceEqDiff, Nat.reduceLT, Nat.reduceLeDiff, Nat.reduceBEq, Nat.reduceBNe, Int.reduceToNat, Int.reduceLT, Int.reduceLE, Int.reduceEq, Int.reduceBNe, Int.reduceBEq, Int.reduceAdd, Int.reduceSub, Int.reduceMul, Int.reduceNeg, ↓reduceIte, List.length_map]
  refine LoopK.count b.qs.length [1, 8, 9] [32, 160] (fun i => [(10, .int .i64 i)]) (fun i => []) (fun i => ∀ j < i, chAt PosV.okB posLt b.qs j = true) (by simp only [go_sem, Nat.reduceAdd, Nat.reduceSub, Nat.reduceMul, Nat.reducePow, Nat.reduceEqDiff, Nat.reduceLT, Nat.reduceLeDiff, Nat.reduceBEq, Nat.reduceBNe, Int.reduceToNat, Int.reduceLT, Int.reduceLE, Int.reduceEq, Int.reduceBNe, Int.reduceBEq, Int.reduceAdd, Int.reduceSub, Int.reduceMul, Int.reduceNeg, ↓reduceIte] <;> exact rfl) (by simp only [go_sem, Nat.reduceAdd, Nat.reduceSub, Nat.reduceMul, Nat.reducePow, Nat.reduceEqDiff, Nat.reduceLT, Nat.reduceLeDiff, Nat.reduceBEq, Nat.reduceBNe, Int.reduceToNat, Int.reduceLT, Int.reduceLE, Int.reduceEq, Int.reduceBNe, Int.reduceBEq, Int.reduceAdd, Int.reduceSub, Int.reduceMul, Int.reduceNeg, ↓reduceIte] <;> exact rfl) (by simp) ?_ ?_
  · simp only [go_sem, Nat.reduceAdd, Nat.reduceSub, Nat.reduceMul, Nat.reducePow, Nat.reduceEqDiff, Nat.reduceLT, Nat.reduceLeDiff, Nat.reduceBEq, Nat.reduceBNe, Int.reduceToNat, Int.reduceLT, Int.reduceLE, Int.reduceEq, Int.reduceBNe, Int.reduceBEq, Int.reduceAdd, Int.reduceSub, Int.reduceMul, Int.reduceNeg, ↓reduceIte] <;> simp
  · intro i hi hI
    simp only [go_sem, Nat.reduceAdd, Nat.reduceSub, Nat.reduceMul, Nat.reducePow, Nat.reduceEqDiff, Nat.reduceLT, Nat.reduceLeDiff, Nat.reduceBEq, Nat.reduceBNe, Int.reduceToNat, Int.reduceLT, Int.reduceLE, Int.reduceEq, Int.reduceBNe, Int.reduceBEq, Int.reduceAdd, Int.reduceSub, Int.reduceMul, Int.reduceNeg, ↓reduceIte]
    refine CondE.splitD (fun h => ?_) (fun h => ?_)
    · have hi' : i < b.qs.length := by omega
      have hw : IntKind.wrap .i64 ((i : Int) + 1) = ((i + 1 : Nat) : Int) := by rw [wr64 (by omega) (by omega)]; omega
      have hm := map_at (c := PosV.cells) b.qs hi'
      have h1 := rightKey_spec b.qs[i].who b.qs[i].inst
      have h2 : Abs.Spec Tryz.prog 90 [] [.sl 1 [[.int .i64 b.qs[i].cost]]] [] (.bool (right [b.qs[i].cost])) := right_spec [b.qs[i].cost] (by simp)
      rw [right_one] at h2
      have e0 := ch_next (i := i) hI
      have e1 : chAt PosV.okB posLt b.qs i = false → b.okB = false := fun hx => by simp [BookV.okB, chB_no hi' hx]
      simp only [PosV.cells] at hm
      rcases Nat.eq_zero_or_pos i with rfl | hpos
      · have hk := chAt_zero (ok := PosV.okB) (lt := posLt) hi'
        simp only [PosV.okB, within] at hk
        clear hlev
        simp only [go_sem, Nat.reduceAdd, Nat.reduceSub, Nat.reduceMul, Nat.reducePow, Nat.reduceEqDiff, Nat.reduceLT, Nat.reduceLeDiff, Nat.reduceBEq, Nat.reduceBNe, Int.reduceToNat, Int.reduceLT, Int.reduceLE, Int.reduceEq, Int.reduceBNe, Int.reduceBEq, Int.reduceAdd, Int.reduceSub, Int.reduceMul, Int.reduceNeg, ↓reduceIte, hm]
        repeat' (with_reducible first
            | refine And.intro ?_ ?_
            | exact DrawN.mk (by kernel_rfl)
            | exact OkN.mk (by kernel_rfl)
            | refine CallN.pure (by assumption) ?_
            | refine CallN.pure (h1) ?_
            | (refine CallN.gen [] [] true (by simp) ?_; simp only [go_sem, Nat.reduceAdd, Nat.reduceSub, Nat.reduceMul, Nat.reducePow, Nat.reduceEqDiff, Nat.reduceLT, Nat.reduceLeDiff, Nat.reduceBEq, Nat.reduceBNe, Int.reduceToNat, Int.reduceLT, Int.reduceLE, Int.reduceEq, Int.reduceBNe, Int.reduceBEq, Int.reduceAdd, Int.reduceSub, Int.reduceMul, Int.reduceNeg, ↓reduceIte]; refine CallG.intro h2 ?_)
            | refine GuardK.splitDN (fun h => ?_) (fun h => ?_)
            | refine GuardK.splitD (fun h => ?_) (fun h => ?_)
            | refine CondE.splitDN (fun h => ?_) (fun h => ?_)
            | refine CondE.splitD (fun h => ?_) (fun h => ?_)
            | refine GuardK.splitN (fun h => ?_) (fun h => ?_)
            | refine GuardK.split (fun h => ?_) (fun h => ?_)
            | refine CondE.splitN (fun h => ?_) (fun h => ?_)
            | refine CondE.split (fun h => ?_) (fun h => ?_)
            | refine WeakK.id ?_
            | refine RoundK.next (by omega) ?_ ?_
            | exact trivial
            | simp only [*, go_sem, Nat.reduceAdd, Nat.reduceSub, Nat.reduceMul, Nat.reducePow, Nat.reduceEqDiff, Nat.reduceLT, Nat.reduceLeDiff, Nat.reduceBEq, Nat.reduceBNe, Int.reduceToNat, Int.reduceLT, Int.reduceLE, Int.reduceEq, Int.reduceBNe, Int.reduceBEq, Int.reduceAdd, Int.reduceSub, Int.reduceMul, Int.reduceNeg, ↓reduceIte])
        all_goals first
          | omega
          | rfl
          | (refine e0 ?_; clear e0 e1; rw [hk]; clear hk; simp_all; done)
          | (refine e0 ?_; clear e0 e1; rw [hk]; clear hk; simp_all; omega)
          | (rw [e1 ?_]
             · rfl
             · clear e0 e1; rw [hk]; clear hk; simp_all; done)
          | (rw [e1 ?_]
             · rfl
             · clear e0 e1; rw [hk]; clear hk; simp_all; omega)
      · obtain ⟨j, rfl⟩ : ∃ j, i = j + 1 := ⟨i - 1, by omega⟩
        have hj : j < b.qs.length := by omega
        have hw1 : IntKind.wrap .i64 (((j + 1 : Nat) : Int) - 1) = (j : Int) := by rw [wr64 (by omega) (by omega)]; omega
        have hk := chAt_succ (ok := PosV.okB) (lt := posLt) hi'
        simp only [PosV.okB, within, posLt] at hk
        have hmj := map_at (c := PosV.cells) b.qs hj
        have h4 := keyLess_spec b.qs[j].who b.qs[j].inst b.qs[j + 1].who b.qs[j + 1].inst
        simp only [PosV.cells] at hmj
        clear hlev
        simp only [go_sem, Nat.reduceAdd, Nat.reduceSub, Nat.reduceMul, Nat.reducePow, Nat.reduceEqDiff, Nat.reduceLT, Nat.reduceLeDiff, Nat.reduceBEq, Nat.reduceBNe, Int.reduceToNat, Int.reduceLT, Int.reduceLE, Int.reduceEq, Int.reduceBNe, Int.reduceBEq, Int.reduceAdd, Int.reduceSub, Int.reduceMul, Int.reduceNeg, ↓reduceIte, hm]
        repeat' (with_reducible first
            | refine And.intro ?_ ?_
            | exact DrawN.mk (by kernel_rfl)
            | exact OkN.mk (by kernel_rfl)
            | refine CallN.pure (by assumption) ?_
            | refine CallN.pure (h1) ?_
            | refine CallN.pure (h4) ?_
            | (refine CallN.gen [] [] true (by simp) ?_; simp only [go_sem, Nat.reduceAdd, Nat.reduceSub, Nat.reduceMul, Nat.reducePow, Nat.reduceEqDiff, Nat.reduceLT, Nat.reduceLeDiff, Nat.reduceBEq, Nat.reduceBNe, Int.reduceToNat, Int.reduceLT, Int.reduceLE, Int.reduceEq, Int.reduceBNe, Int.reduceBEq, Int.reduceAdd, Int.reduceSub, Int.reduceMul, Int.reduceNeg, ↓reduceIte]; refine CallG.intro h2 ?_)
            | refine GuardK.splitDN (fun h => ?_) (fun h => ?_)
            | refine GuardK.splitD (fun h => ?_) (fun h => ?_)
            | refine CondE.splitDN (fun h => ?_) (fun h => ?_)
            | refine CondE.splitD (fun h => ?_) (fun h => ?_)
            | refine GuardK.splitN (fun h => ?_) (fun h => ?_)
            | refine GuardK.split (fun h => ?_) (fun h => ?_)
            | refine CondE.splitN (fun h => ?_) (fun h => ?_)
            | refine CondE.split (fun h => ?_) (fun h => ?_)
            | refine WeakK.id ?_
            | refine RoundK.next (by omega) ?_ ?_
            | exact trivial
            | simp only [*, go_sem, Nat.reduceAdd, Nat.reduceSub, Nat.reduceMul, Nat.reducePow, Nat.reduceEqDiff, Nat.reduceLT, Nat.reduceLeDiff, Nat.reduceBEq, Nat.reduceBNe, Int.reduceToNat, Int.reduceLT, Int.reduceLE, Int.reduceEq, Int.reduceBNe, Int.reduceBEq, Int.reduceAdd, Int.reduceSub, Int.reduceMul, Int.reduceNeg, ↓reduceIte, hmj])
        all_goals first
          | omega
          | rfl
          | (refine e0 ?_; clear e0 e1; rw [hk]; clear hk; simp_all; done)
          | (refine e0 ?_; clear e0 e1; rw [hk]; clear hk; simp_all; omega)
          | (rw [e1 ?_]
             · rfl
             · clear e0 e1; rw [hk]; clear hk; simp_all; done)
          | (rw [e1 ?_]
             · rfl
             · clear e0 e1; rw [hk]; clear hk; simp_all; omega)
    · obtain rfl : i = b.qs.length := by omega
      have hP := chB_yes hI
      simp only [go_sem, Nat.reduceAdd, Nat.reduceSub, Nat.reduceMul, Nat.reducePow, Nat.reduceEqDiff, Nat.reduceLT, Nat.reduceLeDiff, Nat.reduceBEq, Nat.reduceBNe, Int.reduceToNat, Int.reduceLT, Int.reduceLE, Int.reduceEq, Int.reduceBNe, Int.reduceBEq, Int.reduceAdd, Int.reduceSub, Int.reduceMul, Int.reduceNeg, ↓reduceIte, List.length_map]
      refine LoopK.count b.ts.length [1, 65, 66] [32, 1072] (fun i => [(67, .int .i64 i)]) (fun i => []) (fun i => ∀ j < i, chAt (tradeOk b.next) tradeLt b.ts j = true) (by simp only [go_sem, Nat.reduceAdd, Nat.reduceSub, Nat.reduceMul, Nat.reducePow, Nat.reduceEqDiff, Nat.reduceLT, Nat.reduceLeDiff, Nat.reduceBEq, Nat.reduceBNe, Int.reduceToNat, Int.reduceLT, Int.reduceLE, Int.reduceEq, Int.reduceBNe, Int.reduceBEq, Int.reduceAdd, Int.reduceSub, Int.reduceMul, Int.reduceNeg, ↓reduceIte] <;> exact rfl) (by simp only [go_sem, Nat.reduceAdd, Nat.reduceSub, Nat.reduceMul, Nat.reducePow, Nat.reduceEqDiff, Nat.reduceLT, Nat.reduceLeDiff, Nat.reduceBEq, Nat.reduceBNe, Int.reduceToNat, Int.reduceLT, Int.reduceLE, Int.reduceEq, Int.reduceBNe, Int.reduceBEq, Int.reduceAdd, Int.reduceSub, Int.reduceMul, Int.reduceNeg, ↓reduceIte] <;> exact rfl) (by simp) ?_ ?_
      · simp only [go_sem, Nat.reduceAdd, Nat.reduceSub, Nat.reduceMul, Nat.reducePow, Nat.reduceEqDiff, Nat.reduceLT, Nat.reduceLeDiff, Nat.reduceBEq, Nat.reduceBNe, Int.reduceToNat, Int.reduceLT, Int.reduceLE, Int.reduceEq, Int.reduceBNe, Int.reduceBEq, Int.reduceAdd, Int.reduceSub, Int.reduceMul, Int.reduceNeg, ↓reduceIte] <;> simp
      · intro i hi hI
        simp only [go_sem, Nat.reduceAdd, Nat.reduceSub, Nat.reduceMul, Nat.reducePow, Nat.reduceEqDiff, Nat.reduceLT, Nat.reduceLeDiff, Nat.reduceBEq, Nat.reduceBNe, Int.reduceToNat, Int.reduceLT, Int.reduceLE, Int.reduceEq, Int.reduceBNe, Int.reduceBEq, Int.reduceAdd, Int.reduceSub, Int.reduceMul, Int.reduceNeg, ↓reduceIte]
        refine CondE.splitD (fun h => ?_) (fun h => ?_)
        · have hi' : i < b.ts.length := by omega
          have hw : IntKind.wrap .i64 ((i : Int) + 1) = ((i + 1 : Nat) : Int) := by rw [wr64 (by omega) (by omega)]; omega
          have hm := map_at (c := TradeV.cells) b.ts hi'
          have h1 := rightTrade_spec b.ts[i]
          have e0 := ch_next (i := i) hI
          have e1 : chAt (tradeOk b.next) tradeLt b.ts i = false → b.okB = false := fun hx => by simp [BookV.okB, chB_no hi' hx]
          simp only [TradeV.cells] at hm h1
          rcases Nat.eq_zero_or_pos i with rfl | hpos
          · have hk := chAt_zero (ok := tradeOk b.next) (lt := tradeLt) hi'
            simp only [tradeOk] at hk
            clear hlev hP
            simp only [go_sem, Nat.reduceAdd, Nat.reduceSub, Nat.reduceMul, Nat.reducePow, Nat.reduceEqDiff, Nat.reduceLT, Nat.reduceLeDiff, Nat.reduceBEq, Nat.reduceBNe, Int.reduceToNat, Int.reduceLT, Int.reduceLE, Int.reduceEq, Int.reduceBNe, Int.reduceBEq, Int.reduceAdd, Int.reduceSub, Int.reduceMul, Int.reduceNeg, ↓reduceIte, hm]
            repeat' (with_reducible first
                | refine And.intro ?_ ?_
                | exact DrawN.mk (by kernel_rfl)
                | exact OkN.mk (by kernel_rfl)
                | refine CallN.pure (by assumption) ?_
                | refine CallN.pure (h1) ?_
                | refine GuardK.splitDN (fun h => ?_) (fun h => ?_)
                | refine GuardK.splitD (fun h => ?_) (fun h => ?_)
                | refine CondE.splitDN (fun h => ?_) (fun h => ?_)
                | refine CondE.splitD (fun h => ?_) (fun h => ?_)
                | refine GuardK.splitN (fun h => ?_) (fun h => ?_)
                | refine GuardK.split (fun h => ?_) (fun h => ?_)
                | refine CondE.splitN (fun h => ?_) (fun h => ?_)
                | refine CondE.split (fun h => ?_) (fun h => ?_)
                | refine WeakK.id ?_
                | refine RoundK.next (by omega) ?_ ?_
                | exact trivial
                | simp only [*, go_sem, Nat.reduceAdd, Nat.reduceSub, Nat.reduceMul, Nat.reducePow, Nat.reduceEqDiff, Nat.reduceLT, Nat.reduceLeDiff, Nat.reduceBEq, Nat.reduceBNe, Int.reduceToNat, Int.reduceLT, Int.reduceLE, Int.reduceEq, Int.reduceBNe, Int.reduceBEq, Int.reduceAdd, Int.reduceSub, Int.reduceMul, Int.reduceNeg, ↓reduceIte])
            all_goals first
              | omega
              | rfl
              | (refine e0 ?_; clear e0 e1; rw [hk]; clear hk; simp_all; done)
              | (refine e0 ?_; clear e0 e1; rw [hk]; clear hk; simp_all; omega)
              | (rw [e1 ?_]
                 · rfl
                 · clear e0 e1; rw [hk]; clear hk; simp_all; done)
          · obtain ⟨j, rfl⟩ : ∃ j, i = j + 1 := ⟨i - 1, by omega⟩
            have hj : j < b.ts.length := by omega
            have hw1 : IntKind.wrap .i64 (((j + 1 : Nat) : Int) - 1) = (j : Int) := by rw [wr64 (by omega) (by omega)]; omega
            have hk := chAt_succ (ok := tradeOk b.next) (lt := tradeLt) hi'
            simp only [tradeOk, tradeLt] at hk
            have hmj := map_at (c := TradeV.cells) b.ts hj
            simp only [TradeV.cells] at hmj
            clear hlev hP
            simp only [go_sem, Nat.reduceAdd, Nat.reduceSub, Nat.reduceMul, Nat.reducePow, Nat.reduceEqDiff, Nat.reduceLT, Nat.reduceLeDiff, Nat.reduceBEq, Nat.reduceBNe, Int.reduceToNat, Int.reduceLT, Int.reduceLE, Int.reduceEq, Int.reduceBNe, Int.reduceBEq, Int.reduceAdd, Int.reduceSub, Int.reduceMul, Int.reduceNeg, ↓reduceIte, hm]
            repeat' (with_reducible first
                | refine And.intro ?_ ?_
                | exact DrawN.mk (by kernel_rfl)
                | exact OkN.mk (by kernel_rfl)
                | refine CallN.pure (by assumption) ?_
                | refine CallN.pure (h1) ?_
                | refine GuardK.splitDN (fun h => ?_) (fun h => ?_)
                | refine GuardK.splitD (fun h => ?_) (fun h => ?_)
                | refine CondE.splitDN (fun h => ?_) (fun h => ?_)
                | refine CondE.splitD (fun h => ?_) (fun h => ?_)
                | refine GuardK.splitN (fun h => ?_) (fun h => ?_)
                | refine GuardK.split (fun h => ?_) (fun h => ?_)
                | refine CondE.splitN (fun h => ?_) (fun h => ?_)
                | refine CondE.split (fun h => ?_) (fun h => ?_)
                | refine WeakK.id ?_
                | refine RoundK.next (by omega) ?_ ?_
                | exact trivial
                | simp only [*, go_sem, Nat.reduceAdd, Nat.reduceSub, Nat.reduceMul, Nat.reducePow, Nat.reduceEqDiff, Nat.reduceLT, Nat.reduceLeDiff, Nat.reduceBEq, Nat.reduceBNe, Int.reduceToNat, Int.reduceLT, Int.reduceLE, Int.reduceEq, Int.reduceBNe, Int.reduceBEq, Int.reduceAdd, Int.reduceSub, Int.reduceMul, Int.reduceNeg, ↓reduceIte, hmj])
            all_goals first
              | omega
              | rfl
              | (refine e0 ?_; clear e0 e1; rw [hk]; clear hk; simp_all; done)
              | (refine e0 ?_; clear e0 e1; rw [hk]; clear hk; simp_all; omega)
              | (rw [e1 ?_]
                 · rfl
                 · clear e0 e1; rw [hk]; clear hk; simp_all; done)
        · obtain rfl : i = b.ts.length := by omega
          have hT := chB_yes hI
          have e : b.okB = (levelB b.qs && (!decide (128 < (b.ts.length : Int)) && (!decide (b.next < 0) && !decide (1099511627776 < b.next)))) := by simp [BookV.okB, hP, hT]
          rw [e]
          clear e hP hT hI
          simp only [go_sem, Nat.reduceAdd, Nat.reduceSub, Nat.reduceMul, Nat.reducePow, Nat.reduceEqDiff, Nat.reduceLT, Nat.reduceLeDiff, Nat.reduceBEq, Nat.reduceBNe, Int.reduceToNat, Int.reduceLT, Int.reduceLE, Int.reduceEq, Int.reduceBNe, Int.reduceBEq, Int.reduceAdd, Int.reduceSub, Int.reduceMul, Int.reduceNeg, ↓reduceIte, List.length_map]
          refine CallN.pure hlev ?_
          cases b1 : levelB b.qs
          · simp only [go_sem, Nat.reduceAdd, Nat.reduceSub, Nat.reduceMul, Nat.reducePow, Nat.reduceEqDiff, Nat.reduceLT, Nat.reduceLeDiff, Nat.reduceBEq, Nat.reduceBNe, Int.reduceToNat, Int.reduceLT, Int.reduceLE, Int.reduceEq, Int.reduceBNe, Int.reduceBEq, Int.reduceAdd, Int.reduceSub, Int.reduceMul, Int.reduceNeg, ↓reduceIte, b1] <;> simp
          cases b2 : decide (128 < (b.ts.length : Int))
          case true => simp only [go_sem, Nat.reduceAdd, Nat.reduceSub, Nat.reduceMul, Nat.reducePow, Nat.reduceEqDiff, Nat.reduceLT, Nat.reduceLeDiff, Nat.reduceBEq, Nat.reduceBNe, Int.reduceToNat, Int.reduceLT, Int.reduceLE, Int.reduceEq, Int.reduceBNe, Int.reduceBEq, Int.reduceAdd, Int.reduceSub, Int.reduceMul, Int.reduceNeg, ↓reduceIte, List.length_map, b1, b2] <;> simp
          cases b3 : decide (b.next < 0)
          case true => simp only [go_sem, Nat.reduceAdd, Nat.reduceSub, Nat.reduceMul, Nat.reducePow, Nat.reduceEqDiff, Nat.reduceLT, Nat.reduceLeDiff, Nat.reduceBEq, Nat.reduceBNe, Int.reduceToNat, Int.reduceLT, Int.reduceLE, Int.reduceEq, Int.reduceBNe, Int.reduceBEq, Int.reduceAdd, Int.reduceSub, Int.reduceMul, Int.reduceNeg, ↓reduceIte, List.length_map, b1, b2, b3] <;> simp
          cases b4 : decide (1099511627776 < b.next) <;> simp only [go_sem, Nat.reduceAdd, Nat.reduceSub, Nat.reduceMul, Nat.reducePow, Nat.reduceEqDiff, Nat.reduceLT, Nat.reduceLeDiff, Nat.reduceBEq, Nat.reduceBNe, Int.reduceToNat, Int.reduceLT, Int.reduceLE, Int.reduceEq, Int.reduceBNe, Int.reduceBEq, Int.reduceAdd, Int.reduceSub, Int.reduceMul, Int.reduceNeg, ↓reduceIte, List.length_map, b1, b2, b3, b4] <;> simp
end Go.Proofs.YtbllopdcbkeadaaGreat
set_option linter.unusedSimpArgs false
set_option linter.unusedVariables false
namespace Go.Proofs.YtbllopdcbkeadaaGreat
open Go.Abs
def InstV.zero : InstV := ⟨0, 0, 0, 0, 0, 0, 0, 0, 0, 0, 0, 0⟩
theorem findInst_spec (xs : List InstV) (n : Int) (hl : xs.length < 2 ^ 62) : Abs.Spec Tryz.prog 184 [] [.sl 12 (xs.map InstV.cells), .fn 99 [], .int .i64 n] [] (.tup [.agg (getL InstV.no n InstV.zero xs).cells, .int .i64 (posL InstV.no n xs)]) := by
  refine Abs.Spec.go (n := 27) (np := 3) (rs := [.cell 6 117, .tmp 7]) mixed Tryz.func184 rfl rfl rfl rfl rfl (by simp) (by simp) ?_
  simp only [go_sem, Nat.reduceAdd, Nat.reduceSub, Nat.reduceMul, Nat.reducePow, Nat.reduceEqDiff, Nat.reduceLT, Nat.reduceLeDiff, Nat.reduceBEq, Nat.reduceBNe, Int.reduceToNat, Int.reduceLT, Int.reduceLE, Int.reduceEq, Int.reduceBNe, Int.reduceBEq, Int.reduceAdd, Int.reduceSub, Int.reduceMul, Int.reduceNeg, ↓reduceIte, List.length_map]
  refine LoopK.count xs.length [1, 2, 6, 11, 12] [112, 208] (fun i => [(13, .int .i64 i)]) (fun i => []) (fun i => ∀ j (hj : j < xs.length), j < i → xs[j].no ≠ n) (by simp only [go_sem, Nat.reduceAdd, Nat.reduceSub, Nat.reduceMul, Nat.reducePow, Nat.reduceEqDiff, Nat.reduceLT, Nat.reduceLeDiff, Nat.reduceBEq, Nat.reduceBNe, Int.reduceToNat, Int.reduceLT, Int.reduceLE, Int.reduceEq, Int.reduceBNe, Int.reduceBEq, Int.reduceAdd, Int.reduceSub, Int.reduceMul, Int.reduceNeg, ↓reduceIte] <;> exact rfl) (by simp only [go_sem, Nat.reduceAdd, Nat.reduceSub, Nat.reduceMul, Nat.reducePow, Nat.reduceEqDiff, Nat.reduceLT, Nat.reduceLeDiff, Nat.reduceBEq, Nat.reduceBNe, Int.reduceToNat, Int.reduceLT, Int.reduceLE, Int.reduceEq, Int.reduceBNe, Int.reduceBEq, Int.reduceAdd, Int.reduceSub, Int.reduceMul, Int.reduceNeg, ↓reduceIte] <;> exact rfl) (by simp) ?_ ?_
  · simp only [go_sem, Nat.reduceAdd, Nat.reduceSub, Nat.reduceMul, Nat.reducePow, Nat.reduceEqDiff, Nat.reduceLT, Nat.reduceLeDiff, Nat.reduceBEq, Nat.reduceBNe, Int.reduceToNat, Int.reduceLT, Int.reduceLE, Int.reduceEq, Int.reduceBNe, Int.reduceBEq, Int.reduceAdd, Int.reduceSub, Int.reduceMul, Int.reduceNeg, ↓reduceIte] <;> simp
  · intro i hi hI
    simp only [go_sem, Nat.reduceAdd, Nat.reduceSub, Nat.reduceMul, Nat.reducePow, Nat.reduceEqDiff, Nat.reduceLT, Nat.reduceLeDiff, Nat.reduceBEq, Nat.reduceBNe, Int.reduceToNat, Int.reduceLT, Int.reduceLE, Int.reduceEq, Int.reduceBNe, Int.reduceBEq, Int.reduceAdd, Int.reduceSub, Int.reduceMul, Int.reduceNeg, ↓reduceIte]
    refine CondE.splitD (fun h => ?_) (fun h => ?_)
    · have hi' : i < xs.length := by omega
      have hw : IntKind.wrap .i64 ((i : Int) + 1) = ((i + 1 : Nat) : Int) := by rw [wr64 (by omega) (by omega)]; omega
      have hm := map_at (c := InstV.cells) xs hi'
      have hno := noInst_spec xs[i]
      simp only [InstV.cells] at hm hno ⊢
      simp only [go_sem, Nat.reduceAdd, Nat.reduceSub, Nat.reduceMul, Nat.reducePow, Nat.reduceEqDiff, Nat.reduceLT, Nat.reduceLeDiff, Nat.reduceBEq, Nat.reduceBNe, Int.reduceToNat, Int.reduceLT, Int.reduceLE, Int.reduceEq, Int.reduceBNe, Int.reduceBEq, Int.reduceAdd, Int.reduceSub, Int.reduceMul, Int.reduceNeg, ↓reduceIte, hm]
      refine ⟨by omega, CallN.pure hno ?_⟩
      simp only [go_sem, Nat.reduceAdd, Nat.reduceSub, Nat.reduceMul, Nat.reducePow, Nat.reduceEqDiff, Nat.reduceLT, Nat.reduceLeDiff, Nat.reduceBEq, Nat.reduceBNe, Int.reduceToNat, Int.reduceLT, Int.reduceLE, Int.reduceEq, Int.reduceBNe, Int.reduceBEq, Int.reduceAdd, Int.reduceSub, Int.reduceMul, Int.reduceNeg, ↓reduceIte]
      refine CondE.split (fun hb => ?_) (fun hb => ?_)
      · have hb : xs[i].no = n := by simpa using hb
        obtain ⟨g1, g2⟩ := getL_hit (z := InstV.zero) hi' hI hb
        rw [g1, g2]
        simp only [go_sem, Nat.reduceAdd, Nat.reduceSub, Nat.reduceMul, Nat.reducePow, Nat.reduceEqDiff, Nat.reduceLT, Nat.reduceLeDiff, Nat.reduceBEq, Nat.reduceBNe, Int.reduceToNat, Int.reduceLT, Int.reduceLE, Int.reduceEq, Int.reduceBNe, Int.reduceBEq, Int.reduceAdd, Int.reduceSub, Int.reduceMul, Int.reduceNeg, ↓reduceIte]
      · have hb : xs[i].no ≠ n := by simpa using hb
        simp only [go_sem, Nat.reduceAdd, Nat.reduceSub, Nat.reduceMul, Nat.reducePow, Nat.reduceEqDiff, Nat.reduceLT, Nat.reduceLeDiff, Nat.reduceBEq, Nat.reduceBNe, Int.reduceToNat, Int.reduceLT, Int.reduceLE, Int.reduceEq, Int.reduceBNe, Int.reduceBEq, Int.reduceAdd, Int.reduceSub, Int.reduceMul, Int.reduceNeg, ↓reduceIte, hw]
        refine RoundK.next hi' ?_ ?_
        · intro j hj hji
          rcases Nat.lt_or_ge j i with h | h
          · exact hI j hj h
          · obtain rfl : j = i := by omega
            exact hb
        · simp only [go_sem, Nat.reduceAdd, Nat.reduceSub, Nat.reduceMul, Nat.reducePow, Nat.reduceEqDiff, Nat.reduceLT, Nat.reduceLeDiff, Nat.reduceBEq, Nat.reduceBNe, Int.reduceToNat, Int.reduceLT, Int.reduceLE, Int.reduceEq, Int.reduceBNe, Int.reduceBEq, Int.reduceAdd, Int.reduceSub, Int.reduceMul, Int.reduceNeg, ↓reduceIte]
    · obtain rfl : i = xs.length := by omega
      obtain ⟨g1, g2⟩ := getL_miss (z := InstV.zero) (fun j hj => hI j hj hj)
      rw [g1, g2]
      simp only [go_sem, Nat.reduceAdd, Nat.reduceSub, Nat.reduceMul, Nat.reducePow, Nat.reduceEqDiff, Nat.reduceLT, Nat.reduceLeDiff, Nat.reduceBEq, Nat.reduceBNe, Int.reduceToNat, Int.reduceLT, Int.reduceLE, Int.reduceEq, Int.reduceBNe, Int.reduceBEq, Int.reduceAdd, Int.reduceSub, Int.reduceMul, Int.reduceNeg, ↓reduceIte, InstV.cells, InstV.zero]
def instOf (r : RollV) (n : Int) : InstV := getL InstV.no n InstV.zero r.ns
def instIs (r : RollV) (n : Int) : Bool := decide (0 ≤ posL InstV.no n r.ns)
theorem rollInst_spec (r : RollV) (n : Int) (hl : r.small) : Abs.Spec Tryz.prog 169 [] [.agg r.cells, .int .i64 n] [] (.tup [.agg (instOf r n).cells, .bool (instIs r n)]) := by
  have h := findInst_spec r.ns n (by have := hl.2.1; omega)
  obtain ⟨g, hg⟩ : ∃ g, g = getL InstV.no n InstV.zero r.ns := ⟨_, rfl⟩
  simp only [instOf, instIs]
  rw [← hg] at h ⊢
  simp only [InstV.cells] at h ⊢
  simp only [RollV.cells]
  refine Abs.Spec.go (n := 18) (np := 2) (rs := [.cell 4 117, .tmp 5]) mixed Tryz.func169 rfl rfl rfl rfl rfl (by simp) (by simp) ?_
  simp only [go_sem, Nat.reduceAdd, Nat.reduceSub, Nat.reduceMul, Nat.reducePow, Nat.reduceEqDiff, Nat.reduceLT, Nat.reduceLeDiff, Nat.reduceBEq, Nat.reduceBNe, Int.reduceToNat, Int.reduceLT, Int.reduceLE, Int.reduceEq, Int.reduceBNe, Int.reduceBEq, Int.reduceAdd, Int.reduceSub, Int.reduceMul, Int.reduceNeg, ↓reduceIte]
  refine CallN.pure h ?_
  simp only [go_sem, Nat.reduceAdd, Nat.reduceSub, Nat.reduceMul, Nat.reducePow, Nat.reduceEqDiff, Nat.reduceLT, Nat.reduceLeDiff, Nat.reduceBEq, Nat.reduceBNe, Int.reduceToNat, Int.reduceLT, Int.reduceLE, Int.reduceEq, Int.reduceBNe, Int.reduceBEq, Int.reduceAdd, Int.reduceSub, Int.reduceMul, Int.reduceNeg, ↓reduceIte]
end Go.Proofs.YtbllopdcbkeadaaGreat
set_option linter.unusedSimpArgs false
set_option linter.unusedVariables false
namespace Go.Proofs.YtbllopdcbkeadaaGreat
open Go.Abs
structure PieceV where
  i : InstV
  q : Int
@[reducible] def PieceV.cells (x : PieceV) : List D := [.int .i64 x.i.no, .int .i64 x.i.cur, .int .i64 x.i.mult, .int .i64 x.i.add, .int .i64 x.i.set, .int .i64 x.i.price, .int .i64 x.i.s0, .int .i64 x.i.s1, .int .i64 x.i.s2, .int .i64 x.i.s3, .int .i64 x.i.s4, .int .i64 x.i.s5, .int .i64 x.q]
end Go.Proofs.YtbllopdcbkeadaaGreat
set_option linter.unusedSimpArgs false
set_option linter.unusedVariables false
namespace Go.Proofs.YtbllopdcbkeadaaGreat
open Go.Abs
theorem mul_range {a b A B : Int} (ha : -A ≤ a ∧ a ≤ A) (hb : -B ≤ b ∧ b ≤ B) : -(A * B) ≤ a * b ∧ a * b ≤ A * B := by
  have hA : 0 ≤ A := by omega
  have hB : 0 ≤ B := by omega
  have h : a.natAbs * b.natAbs ≤ A.natAbs * B.natAbs := Nat.mul_le_mul (by omega) (by omega)
  have h1 : (a * b).natAbs = a.natAbs * b.natAbs := Int.natAbs_mul a b
  have h2 : (A * B).natAbs = A.natAbs * B.natAbs := Int.natAbs_mul A B
  have h3 : 0 ≤ A * B := Int.mul_nonneg hA hB
  omega
theorem in2_of {B x : Int} (h : -B ≤ x ∧ x ≤ B) (hB : B ≤ 85070591730234615865843651857942052864) : in2 x = true := by
  simp only [in2, Bool.and_eq_true, decide_eq_true_eq]; omega
end Go.Proofs.YtbllopdcbkeadaaGreat
set_option linter.unusedSimpArgs false
set_option linter.unusedVariables false
namespace Go.Proofs.YtbllopdcbkeadaaGreat
open Go.Abs
end Go.Proofs.YtbllopdcbkeadaaGreat
set_option linter.unusedSimpArgs false
set_option linter.unusedVariables false
namespace Go.Proofs.YtbllopdcbkeadaaGreat
open Go.Abs
section
variable {A : Type} {no : A → Int} {ok : A → Bool} {xs : List A}
end
end Go.Proofs.YtbllopdcbkeadaaGreat
