/- The predicate on data, worked out by simp: code and operations; no theorem of a claim. -/
import Derived.Test.YtdklpddmplflgaaDoorAbcMono
set_option linter.unusedSimpArgs false
set_option linter.unusedVariables false
namespace Go.Abs

section
variable {P : Program} {n np : Nat} {ops : List Oper} {e : Env} {g dr : Bool} {K : Env → Prop} {ty : TypeId} {pos : String} {after : Array Edge} {gu : Option (Nat × Bool)} {d : Nat}

/-! ### marks: so that what is worked out in them counts as turned -/
def bm (b : Bool) : Bool := b
def em (e : Env) : Env := e
def dm (d : D) : D := d
def lm {α : Type} (l : List α) : List α := l
def nk (n : Nat) : Nat := n
@[go_sem] theorem bm_eq (b : Bool) : bm b = b := Eq.trans rfl rfl
@[go_sem] theorem em_eq (e : Env) : em e = e := Eq.trans rfl rfl
@[go_sem] theorem dm_eq (d : D) : dm d = d := Eq.trans rfl rfl
@[go_sem] theorem lm_eq {α : Type} (l : List α) : lm l = l := Eq.trans rfl rfl
@[go_sem] theorem nk_eq (n : Nat) : nk n = n := Eq.trans rfl rfl
@[congr] theorem Norm_congr {v v' : D} {k : D → Prop} (h : True → v = v') : Norm v k = Norm v' k := by rw [h trivial]
@[go_sem] theorem Norm_eq (v : D) (k : D → Prop) : Norm v k = k v := rfl
def NormN (r : Nat) (k : Nat → Prop) : Prop := k r
@[congr] theorem NormN_congr {v v' : Nat} {k : Nat → Prop} (h : True → v = v') : NormN v k = NormN v' k := by rw [h trivial]
@[go_sem] theorem NormN_eq (v : Nat) (k : Nat → Prop) : NormN v k = k v := rfl

/-! ### closures: named, so that nothing is worked out ahead of its time -/
def uK (e : Env) (d : Nat) (K : Env → Prop) (u : D) : Prop := K (updT e d u)
def lK (P : Program) (n : Nat) (ops r : List Oper) (K : Env → Prop) (e : Env) : Prop := wpList P n ops r e K
def lKD (P : Program) (n np : Nat) (ops r : List Oper) (K : Env → Prop) (e : Env) : Prop := wpListD P n np ops r e K
def oK (P : Program) (n : Nat) (o : Oper) (e : Env) (K : Env → Prop) (g : Bool) : Prop := opK P n false o e g K
def HD (b : Bool) (x y : Prop) : Prop := if b then x else y
@[congr] theorem HD_congr {b b' : Bool} {x y : Prop} (h : True → b = b') : HD b x y = HD b' x y := by rw [h trivial]
@[go_sem ↓] theorem HD_true (x y : Prop) : HD true x y = x := by simp [HD]
@[go_sem ↓] theorem HD_false (x y : Prop) : HD false x y = y := by simp [HD]
attribute [go_sem] hardY hard isApp isPtrC ptrT ptrU ptrS hardD isT lit0 app1 litOf softQ softO Option.isSome_some Option.isSome_none Option.isNone_some Option.isNone_none
@[go_sem] theorem litAt_nil (t : Nat) : litAt t [] = false := rfl
@[go_sem] theorem litAt_cons (t : Nat) (o : Oper) (r : List Oper) : litAt t (o :: r) = ((lit0 o.op && (o.guard.isNone && o.dst == some t)) || litAt t r) := rfl
@[go_sem] theorem appAt_nil (t : Nat) : appAt t [] = false := rfl
@[go_sem] theorem appAt_cons (t : Nat) (o : Oper) (r : List Oper) : appAt t (o :: r) = (app1 t o.op || appAt t r) := rfl
@[go_sem] theorem some_beq (a b : Nat) : (some a == some b) = (a == b) := rfl
@[go_sem] theorem none_beq (b : Nat) : ((none : Option Nat) == some b) = false := rfl
def oKD (P : Program) (n np : Nat) (ops : List Oper) (o : Oper) (e : Env) (K : Env → Prop) (g : Bool) : Prop := HD (softO ops o) (softK P n np ops o e K) (HD (hardD o) (HD (isApp o) (appA P n o e g K) (opK P n false o e g K)) (opD P n np ops o e g K))
@[go_sem ↓] theorem uK_eq (u : D) : uK e d K u = K (updT e d u) := rfl
@[go_sem ↓] theorem lK_eq (r : List Oper) : lK P n ops r K e = wpList P n ops r e K := rfl
@[go_sem ↓] theorem lKD_eq (r : List Oper) : lKD P n np ops r K e = wpListD P n np ops r e K := rfl
@[go_sem ↓] theorem oK_eq (o : Oper) : oK P n o e K g = opK P n false o e g K := rfl
@[go_sem ↓] theorem oKD_eq (o : Oper) : oKD P n np ops o e K g = HD (softO ops o) (softK P n np ops o e K) (HD (hardD o) (HD (isApp o) (appA P n o e g K) (opK P n false o e g K)) (opD P n np ops o e g K)) := rfl

/-! ### code -/
def CondE (P : Program) (n np : Nat) (a b : Code) (Q : Exit → Env → Prop) (e : Env) (v : D) : Prop := match v with
  | .bool t => CondK t (wpC P n np a Q e) (wpC P n np b Q e)
  | _ => False
@[congr] theorem CondE_congr {a b : Code} {Q : Exit → Env → Prop} {v v' : D} (h : True → v = v') : CondE P n np a b Q e v = CondE P n np a b Q e v' := by rw [h trivial]
@[go_sem] theorem CondE_true (a b : Code) (Q : Exit → Env → Prop) : CondE P n np a b Q e (.bool true) = wpC P n np a Q e := by simp [CondE, CondK]
@[go_sem] theorem CondE_false (a b : Code) (Q : Exit → Env → Prop) : CondE P n np a b Q e (.bool false) = wpC P n np b Q e := by simp [CondE, CondK]
theorem CondE.split {t : Bool} {a b : Code} {Q : Exit → Env → Prop} (h1 : t = true → wpC P n np a Q e) (h2 : t = false → wpC P n np b Q e) : CondE P n np a b Q e (.bool t) := ⟨h1, h2⟩
theorem CondE.splitN {t : Bool} {a b : Code} {Q : Exit → Env → Prop} (h1 : t = false → wpC P n np a Q e) (h2 : t = true → wpC P n np b Q e) : CondE P n np a b Q e (.bool (!t)) := ⟨fun h => h1 (by simpa using h), fun h => h2 (by simpa using h)⟩
@[go_sem ↓] theorem wpC_skip (Q : Exit → Env → Prop) : wpC P n np .skip Q e = Q .normal e := rfl
@[go_sem ↓] theorem wpC_region0 (id : Nat) (os : Array Oper) (Q : Exit → Env → Prop) : wpC P n np (.region id os false) Q e = wpList P n os.toList os.toList e (Q .normal) := by simp [wpC]
def DrawN (np : Nat) (os : Array Oper) : Prop := DrawK np os
@[congr] theorem DrawN_congr {m m' : Nat} {os : Array Oper} (h : True → m = m') : DrawN m os = DrawN m' os := by rw [h trivial]
theorem DrawN.mk {os : Array Oper} (h : drawOk np os = true) : DrawN np os := h
@[go_sem ↓] theorem wpC_region1 (id : Nat) (os : Array Oper) (Q : Exit → Env → Prop) : wpC P n np (.region id os true) Q e = (DrawN (nk np) os ∧ wpListD P n np os.toList os.toList e (Q .normal)) := by simp [wpC, DrawN, nk]
def seqK (P : Program) (n np : Nat) (b : Code) (Q : Exit → Env → Prop) (j : Bool) : Env → Prop := if j then WeakK (wpC P n np b Q) else wpC P n np b Q
@[go_sem ↓] theorem wpC_seq (a b : Code) (Q : Exit → Env → Prop) : wpC P n np (.seq a b) Q e = wpC P n np a (thenE (seqK P n np b Q (isJoin a)) Q) e := rfl
def seqE (P : Program) (n np : Nat) (b : Code) (Q : Exit → Env → Prop) (e : Env) (j : Bool) : Prop := seqK P n np b Q j e
@[congr] theorem seqE_congr {b : Code} {Q : Exit → Env → Prop} {j j' : Bool} (h : True → j = j') : seqE P n np b Q e j = seqE P n np b Q e j' := by rw [h trivial]
@[go_sem ↓] theorem seqK_eq (b : Code) (Q : Exit → Env → Prop) (j : Bool) : seqK P n np b Q j e = seqE P n np b Q e j := rfl
@[go_sem ↓] theorem WeakK_true (b : Code) (Q : Exit → Env → Prop) : seqE P n np b Q e true = WeakK (wpC P n np b Q) (em e) := by simp [seqE, seqK, em]
@[go_sem ↓] theorem WeakK_false (b : Code) (Q : Exit → Env → Prop) : seqE P n np b Q e false = wpC P n np b Q e := by simp [seqE, seqK]
@[congr] theorem WeakK_congr {K : Env → Prop} {e e' : Env} (h : True → e = e') : WeakK K e = WeakK K e' := by rw [h trivial]
theorem WeakK.id (h : K e) : WeakK K e := .inl h
theorem WeakK.le (ts os : EL) (h : LeL e ts os) (hk : K (mkE ts os)) : WeakK K e := .inr ⟨ts, os, h, hk⟩
attribute [go_sem] falls isJoin
@[congr] theorem CutK_congr {T : Type} {ts os : T → EL} {I : T → Prop} {e e' : Env} (h : True → e = e') : CutK ts os I e = CutK ts os I e' := by rw [h trivial]
/-- what follows a loop is walked once -/
theorem cut_loop {b c : Code} {j : Bool} {id : Nat} {Q : Exit → Env → Prop} {T : Type} (ts os : T → EL) (I : T → Prop) (hj : j = true) (rest : ∀ s, I s → wpC P n np b Q (mkE (ts s) (os s))) (hk : LoopK (wpC P n np c) (blockE id (thenE (CutK ts os I) Q)) e) :
    LoopK (wpC P n np c) (blockE id (thenE (seqK P n np b Q j) Q)) e := by
  have : seqK P n np b Q j = WeakK (wpC P n np b Q) := by simp [seqK, hj]
  rw [this]
  exact cut_blk ts os I rest hk
/-- what follows an if is walked once -/
theorem cut_cond {b x y : Code} {j : Bool} {Q : Exit → Env → Prop} {v : D} {T : Type} (ts os : T → EL) (I : T → Prop) (hj : j = true) (rest : ∀ s, I s → wpC P n np b Q (mkE (ts s) (os s))) (hk : CondE P n np x y (thenE (CutK ts os I) Q) e v) :
    CondE P n np x y (thenE (seqK P n np b Q j) Q) e v := by
  have : seqK P n np b Q j = WeakK (wpC P n np b Q) := by simp [seqK, hj]
  rw [this]
  have hm : ∀ z e, thenE (CutK ts os I) Q z e → thenE (WeakK (wpC P n np b Q)) Q z e := by
    intro z e hz
    cases z <;> first | exact CutK.weak rest e hz | exact hz
  unfold CondE at hk ⊢
  split at hk
  · exact ⟨fun t => wpC_mono x hm (hk.1 t), fun t => wpC_mono y hm (hk.2 t)⟩
  · exact hk.elim
theorem cut_blkcond {b x y : Code} {j : Bool} {id : Nat} {Q : Exit → Env → Prop} {v : D} {T : Type} (ts os : T → EL) (I : T → Prop) (hj : j = true) (rest : ∀ s, I s → wpC P n np b Q (mkE (ts s) (os s))) (hk : CondE P n np x y (blockE id (thenE (CutK ts os I) Q)) e v) :
    CondE P n np x y (blockE id (thenE (seqK P n np b Q j) Q)) e v := by
  have : seqK P n np b Q j = WeakK (wpC P n np b Q) := by simp [seqK, hj]
  rw [this]
  have hm : ∀ z e, blockE id (thenE (CutK ts os I) Q) z e → blockE id (thenE (WeakK (wpC P n np b Q)) Q) z e := by
    intro z e hz
    have hn : thenE (CutK ts os I) Q .normal e → thenE (WeakK (wpC P n np b Q)) Q .normal e := fun h => CutK.weak rest e h
    cases z <;> try exact hz
    · exact hn hz
    · simp only [blockE] at hz ⊢
      split
      · rename_i hid; rw [if_pos hid] at hz; exact hn hz
      · rename_i hid; rw [if_neg hid] at hz; exact hz
  unfold CondE at hk ⊢
  split at hk
  · exact ⟨fun t => wpC_mono x hm (hk.1 t), fun t => wpC_mono y hm (hk.2 t)⟩
  · exact hk.elim
@[go_sem ↓] theorem wpC_cond (c : Operand) (a b : Code) (Q : Exit → Env → Prop) : wpC P n np (.cond c a b) Q e = CondE P n np a b Q e (dm (rd e c)) := rfl
@[go_sem ↓] theorem wpC_block (id : Nat) (a : Code) (Q : Exit → Env → Prop) : wpC P n np (.block id a) Q e = wpC P n np a (blockE id Q) e := rfl
@[go_sem ↓] theorem wpC_loop (a : Code) (Q : Exit → Env → Prop) : wpC P n np (.loop a) Q e = LoopK (wpC P n np a) Q (em e) := rfl
@[congr] theorem LoopK_congr {b : (Exit → Env → Prop) → Env → Prop} {Q : Exit → Env → Prop} {e e' : Env} (h : True → e = e') : LoopK b Q e = LoopK b Q e' := by rw [h trivial]
@[go_sem ↓] theorem wpC_exit (id : Nat) (Q : Exit → Env → Prop) : wpC P n np (.exit id) Q e = Q (.exit id) e := rfl
@[go_sem ↓] theorem wpC_ret (Q : Exit → Env → Prop) : wpC P n np .ret Q e = Q .ret e := rfl
@[go_sem ↓] theorem thenE_normal (K : Env → Prop) (Q : Exit → Env → Prop) : thenE K Q .normal e = K e := rfl
@[go_sem ↓] theorem thenE_exit (K : Env → Prop) (Q : Exit → Env → Prop) (id : Nat) : thenE K Q (.exit id) e = Q (.exit id) e := rfl
@[go_sem ↓] theorem thenE_ret (K : Env → Prop) (Q : Exit → Env → Prop) : thenE K Q .ret e = Q .ret e := rfl
@[go_sem ↓] theorem blockE_normal (id : Nat) (Q : Exit → Env → Prop) : blockE id Q .normal e = Q .normal e := rfl
@[go_sem ↓] theorem blockE_exit (id id' : Nat) (Q : Exit → Env → Prop) : blockE id Q (.exit id') e = if id' = id then Q .normal e else Q (.exit id') e := rfl
@[go_sem ↓] theorem blockE_ret (id : Nat) (Q : Exit → Env → Prop) : blockE id Q .ret e = Q .ret e := rfl
@[go_sem ↓] theorem retE_normal (rs : List ResultVar) (m : Nat) (hs' : List D) (v : D) : retE P rs m hs' v .normal e = RetK P rs m hs' v e := rfl
@[go_sem ↓] theorem retE_ret (rs : List ResultVar) (m : Nat) (hs' : List D) (v : D) : retE P rs m hs' v .ret e = RetK P rs m hs' v e := rfl
@[go_sem ↓] theorem roundE_exit {T : Type} (ts os : T → EL) (I : T → Prop) (m : T → Nat) (s : T) (Q : Exit → Env → Prop) (id : Nat) : roundE ts os I m s Q (.exit id) e = Q (.exit id) e := rfl
@[go_sem ↓] theorem roundE_ret {T : Type} (ts os : T → EL) (I : T → Prop) (m : T → Nat) (s : T) (Q : Exit → Env → Prop) : roundE ts os I m s Q .ret e = Q .ret e := rfl
/-- the end of a round -/
@[go_sem ↓] theorem roundE_normal {T : Type} (ts os : T → EL) (I : T → Prop) (m : T → Nat) (s : T) (Q : Exit → Env → Prop) : roundE ts os I m s Q .normal e = RoundK ts os I m s (em e) := rfl
@[go_sem ↓] theorem retX_normal (rs : List ResultVar) (m : Nat) (Φ : List D → D → Prop) : retX P rs m Φ .normal e = RetX P rs m Φ (em e) := rfl
@[go_sem ↓] theorem retX_ret (rs : List ResultVar) (m : Nat) (Φ : List D → D → Prop) : retX P rs m Φ .ret e = RetX P rs m Φ (em e) := rfl
@[congr] theorem RetX_congr {rs : List ResultVar} {m : Nat} {Φ : List D → D → Prop} {e e' : Env} (h : True → e = e') : RetX P rs m Φ e = RetX P rs m Φ e' := by rw [h trivial]
theorem RetX.mk {rs : List ResultVar} {m : Nat} {Φ : List D → D → Prop} {e : Env} (hs' : List D) (d : D) (hΦ : Φ hs' d) (h : RetK P rs m hs' d e) : RetX P rs m Φ e := ⟨hs', d, hΦ, h⟩
@[congr] theorem RoundK_congr {T : Type} {ts os : T → EL} {I : T → Prop} {m : T → Nat} {s : T} {e e' : Env} (h : True → e = e') : RoundK ts os I m s e = RoundK ts os I m s e' := by rw [h trivial]

/-! ### lists of operations -/
@[go_sem ↓] theorem wpList_nil : wpList P n ops [] e K = K e := rfl
@[go_sem ↓] theorem wpList_cons (o : Oper) (r : List Oper) : wpList P n ops (o :: r) e K = wpOp P n ops o e (lK P n ops r K) := rfl
@[go_sem ↓] theorem wpListD_nil : wpListD P n np ops [] e K = K e := rfl
@[go_sem ↓] theorem wpListD_cons (o : Oper) (r : List Oper) : wpListD P n np ops (o :: r) e K = wpOpD P n np ops o e (lKD P n np ops r K) := rfl
@[go_sem ↓] theorem toList_lit {α : Type} (l : List α) : l.toArray.toList = l := rfl
@[go_sem ↓] theorem toList_lit' {α : Type} (l : List α) : (Array.mk l).toList = l := rfl

/-! ### guards -/
def GuardK (o : Option Bool) (k : Bool → Prop) : Prop := match o with
  | some g => k g
  | none => False
@[congr] theorem GuardK_congr {o o' : Option Bool} {k : Bool → Prop} (h : True → o = o') : GuardK o k = GuardK o' k := by rw [h trivial]
@[go_sem] theorem GuardK_true (k : Bool → Prop) : GuardK (some true) k = k true := rfl
@[go_sem] theorem GuardK_false (k : Bool → Prop) : GuardK (some false) k = k false := rfl
theorem GuardK.split {g : Bool} {k : Bool → Prop} (h1 : g = true → k true) (h2 : g = false → k false) : GuardK (some g) k := by
  cases g with
  | true => exact h1 rfl
  | false => exact h2 rfl
theorem GuardK.splitN {b : Bool} {k : Bool → Prop} (h1 : b = false → k true) (h2 : b = true → k false) : GuardK (some (!b)) k := by
  cases b with
  | true => exact h2 rfl
  | false => exact h1 rfl
@[go_sem ↓] theorem wpOp_none (dst : Option Tmp) (op : Op) : wpOp P n ops ⟨dst, op, ty, pos, after, none⟩ e K = opK P n false ⟨dst, op, ty, pos, after, none⟩ e true K := rfl
@[go_sem ↓] theorem wpOp_some (dst : Option Tmp) (op : Op) (p : Nat × Bool) : wpOp P n ops ⟨dst, op, ty, pos, after, some p⟩ e K = GuardK (gval ops e (some p)) (oK P n ⟨dst, op, ty, pos, after, some p⟩ e K) := rfl
@[go_sem ↓] theorem wpOpD_none (dst : Option Tmp) (op : Op) : wpOpD P n np ops ⟨dst, op, ty, pos, after, none⟩ e K = HD (softO ops ⟨dst, op, ty, pos, after, none⟩) (softK P n np ops ⟨dst, op, ty, pos, after, none⟩ e K) (HD (hardD ⟨dst, op, ty, pos, after, none⟩) (HD (isApp ⟨dst, op, ty, pos, after, none⟩) (appA P n ⟨dst, op, ty, pos, after, none⟩ e true K) (opK P n false ⟨dst, op, ty, pos, after, none⟩ e true K)) (opD P n np ops ⟨dst, op, ty, pos, after, none⟩ e true K)) := rfl
@[go_sem ↓] theorem wpOpD_some (dst : Option Tmp) (op : Op) (p : Nat × Bool) : wpOpD P n np ops ⟨dst, op, ty, pos, after, some p⟩ e K = GuardK (gval ops e (some p)) (oKD P n np ops ⟨dst, op, ty, pos, after, some p⟩ e K) := rfl
def gvalD (o : Option Tmp) (e : Env) (w : Bool) : Option Bool := match o with
  | some t => wantD w (rd e (.tmp t))
  | none => some false
@[congr] theorem gvalD_congr {o o' : Option Tmp} {w : Bool} (h : True → o = o') : gvalD o e w = gvalD o' e w := by rw [h trivial]
@[go_sem ↓] theorem gval_some (j : Nat) (w : Bool) : gval ops e (some (j, w)) = gvalD (dstAt ops j) e w := rfl
@[go_sem ↓] theorem dstAt_zero (o : Oper) (r : List Oper) : dstAt (o :: r) 0 = o.dst := rfl
@[go_sem ↓] theorem dstAt_succ (o : Oper) (r : List Oper) (j : Nat) : dstAt (o :: r) (j + 1) = dstAt r j := rfl
@[go_sem ↓] theorem gvalD_some (t : Nat) (w : Bool) : gvalD (some t) e w = wantD w (rd e (.tmp t)) := Eq.trans rfl rfl
@[go_sem] theorem wantD_bool (w b : Bool) : wantD w (.bool b) = some (b == w) := rfl
@[go_sem] theorem wantD_tup (w : Bool) : wantD w (.tup []) = some false := rfl
@[go_sem] theorem beq_tt (b : Bool) : (b == true) = b := by cases b <;> rfl
@[go_sem] theorem beq_ff (b : Bool) : (b == false) = !b := by cases b <;> rfl

/-! ### steps -/
@[congr] theorem StepK_congr {g g' : Bool} {ok ok' : Prop} {v v' : D} {k : D → Prop} (hg : True → g = g') (ho : g' = true → ok = ok') (hv : g' = true → v = v') : StepK g ok v k = StepK g' ok' v' k := by
  obtain rfl := hg trivial
  cases g with
  | true => rw [ho rfl, hv rfl]
  | false => simp [StepK, gd]
@[go_sem ↓] theorem StepK_true (ok : Prop) (v : D) (k : D → Prop) : StepK true ok v k = (ok ∧ Norm (dm v) k) := by simp [StepK, gd, Norm, dm]
@[go_sem ↓] theorem StepK_false (ok : Prop) (v : D) (k : D → Prop) : StepK false ok v k = k (.tup []) := by simp [StepK, gd]
@[go_sem ↓] theorem GK_true (a b : Prop) : GK true a b = a := by simp [GK]
@[go_sem ↓] theorem GK_false (a b : Prop) : GK false a b = b := by simp [GK]

/-! ### orders left open -/
def AoK (np : Nat) (ops : List Oper) (o : Oper) (l : List Nat) : Prop := allOk np ops o l
@[congr] theorem AoK_congr {o : Oper} {l l' : List Nat} (h : True → l = l') : AoK np ops o l = AoK np ops o l' := by rw [h trivial]
@[go_sem] theorem AoK_nil (o : Oper) : AoK np ops o [] = True := rfl
def OkN (np : Nat) (ops : List Oper) (o : Oper) (r : Nat) : Prop := okName np ops o r = true
@[congr] theorem OkN_congr {o : Oper} {r r' : Nat} (h : True → r = r') : OkN np ops o r = OkN np ops o r' := by rw [h trivial]
theorem OkN.mk {o : Oper} {r : Nat} (h : okName np ops o r = true) : OkN np ops o r := h
@[go_sem] theorem AoK_cons (o : Oper) (r : Nat) (l : List Nat) : AoK np ops o (r :: l) = (OkN np ops o (nk r) ∧ AoK np ops o l) := rfl
@[go_sem ↓] theorem opD_true (o : Oper) : opD P n np ops o e true K = (AoK np ops o (lm (objsOf e o)) ∧ opK P n true o e true K) := by simp [opD, AoK, lm]
@[go_sem ↓] theorem opD_false (o : Oper) : opD P n np ops o e false K = opK P n true o e false K := by simp [opD]
def noN (a b : Option Tmp) : Option Tmp := a
section
variable {dst : Option Tmp}
@[go_sem ↓] theorem objsOf_load (t : TypeId) (a : Operand) : objsOf e ⟨dst, .load t a, ty, pos, after, gu⟩ = (rd e a).names := rfl
@[go_sem ↓] theorem objsOf_store (t : TypeId) (a x : Operand) : objsOf e ⟨dst, .store t a x, ty, pos, after, gu⟩ = (rd e a).names := rfl
@[go_sem ↓] theorem objsOf_indexAddr (t : TypeId) (x i : Operand) : objsOf e ⟨dst, .indexAddr t x i, ty, pos, after, gu⟩ = (rd e x).names := rfl
@[go_sem ↓] theorem objsOf_slice (t : TypeId) (x : Operand) (a b c : Option Operand) : objsOf e ⟨dst, .slice t x a b c, ty, pos, after, gu⟩ = (rd e x).names := rfl
@[go_sem ↓] theorem objsOf_move (x : Operand) : objsOf e ⟨dst, .move x, ty, pos, after, gu⟩ = [] := rfl
@[go_sem ↓] theorem objsOf_assign (x : Operand) : objsOf e ⟨dst, .assign x, ty, pos, after, gu⟩ = [] := rfl
@[go_sem ↓] theorem objsOf_pick (x y z : Operand) : objsOf e ⟨dst, .pick x y z, ty, pos, after, gu⟩ = [] := rfl
@[go_sem ↓] theorem objsOf_binOp (op : BinOp) (t t2 : TypeId) (x y : Operand) : objsOf e ⟨dst, .binOp op t x y t2, ty, pos, after, gu⟩ = [] := rfl
@[go_sem ↓] theorem objsOf_unOp (op : UnOp) (t : TypeId) (x : Operand) : objsOf e ⟨dst, .unOp op t x, ty, pos, after, gu⟩ = [] := rfl
@[go_sem ↓] theorem objsOf_convert (s t : TypeId) (x : Operand) : objsOf e ⟨dst, .convert s t x, ty, pos, after, gu⟩ = [] := rfl
@[go_sem ↓] theorem objsOf_fieldAddr (t : TypeId) (x : Operand) (f : Nat) : objsOf e ⟨dst, .fieldAddr t x f, ty, pos, after, gu⟩ = [] := rfl
@[go_sem ↓] theorem objsOf_field (t : TypeId) (x : Operand) (f : Nat) : objsOf e ⟨dst, .field t x f, ty, pos, after, gu⟩ = [] := rfl
@[go_sem ↓] theorem objsOf_index (t : TypeId) (x i : Operand) : objsOf e ⟨dst, .index t x i, ty, pos, after, gu⟩ = [] := rfl
@[go_sem ↓] theorem objsOf_nilCheck (x : Operand) : objsOf e ⟨dst, .nilCheck x, ty, pos, after, gu⟩ = [] := rfl
@[go_sem ↓] theorem objsOf_extract (x : Operand) (i : Nat) : objsOf e ⟨dst, .extract x i, ty, pos, after, gu⟩ = [] := rfl
@[go_sem ↓] theorem objsOf_build (t : TypeId) (ps : Array (Nat × Operand)) : objsOf e ⟨dst, .build t ps, ty, pos, after, gu⟩ = [] := rfl
@[go_sem ↓] theorem objsOf_buildSlice (t : TypeId) (l : Nat) (ps : Array (Nat × Operand)) : objsOf e ⟨dst, .buildSlice t l ps, ty, pos, after, gu⟩ = [] := rfl
@[go_sem ↓] theorem objsOf_makeSlice (t : TypeId) (l c : Operand) : objsOf e ⟨dst, .makeSlice t l c, ty, pos, after, gu⟩ = [] := rfl
@[go_sem ↓] theorem objsOf_alloc (t : TypeId) : objsOf e ⟨dst, .alloc t, ty, pos, after, gu⟩ = [] := rfl
@[go_sem ↓] theorem objsOf_box (t : TypeId) (x : Operand) : objsOf e ⟨dst, .box t x, ty, pos, after, gu⟩ = [] := rfl
@[go_sem ↓] theorem objsOf_makeFunc (f : Fn) (a b : Array Operand) : objsOf e ⟨dst, .makeFunc f a b, ty, pos, after, gu⟩ = [] := rfl
/-- the objects that a call reaches -/
def rchE (e : Env) (k : Nat) (l : List Nat) : List Nat := reach e.o k l
@[congr] theorem rchE_congr {k : Nat} {l l' : List Nat} (h : True → l = l') : rchE e k l = rchE e k l' := by rw [h trivial]
@[go_sem] theorem rchE_nil (k : Nat) : rchE e k [] = [] := by
  unfold rchE
  induction k with
  | zero => rfl
  | succ k ih => simp only [reach, List.map_nil, D.namesL, List.nil_append]; exact ih
theorem rchE_cons (k : Nat) (r : Nat) (l : List Nat) : rchE e (k + 1) (r :: l) = r :: l ++ rchE e k (lm (D.namesL ((r :: l).map e.o))) := rfl
@[go_sem] theorem rchE_cons4 (r : Nat) (l : List Nat) : rchE e 4 (r :: l) = r :: l ++ rchE e 3 (lm (D.namesL ((r :: l).map e.o))) := rfl
@[go_sem] theorem rchE_cons3 (r : Nat) (l : List Nat) : rchE e 3 (r :: l) = r :: l ++ rchE e 2 (lm (D.namesL ((r :: l).map e.o))) := rfl
@[go_sem] theorem rchE_cons2 (r : Nat) (l : List Nat) : rchE e 2 (r :: l) = r :: l ++ rchE e 1 (lm (D.namesL ((r :: l).map e.o))) := rfl
@[go_sem] theorem rchE_cons1 (r : Nat) (l : List Nat) : rchE e 1 (r :: l) = r :: l ++ D.namesL ((r :: l).map e.o) := rfl
@[go_sem ↓] theorem objsOf_callV (f : Operand) (args : Array Operand) (T : Array TypeId) : objsOf e ⟨dst, .call ⟨.value f, args, T⟩, ty, pos, after, gu⟩ = rchE e 4 (lm (D.namesL (rd e f :: args.toList.map (rd e)))) := rfl
@[go_sem ↓] theorem objsOf_callB (b : Builtin) (args : Array Operand) (T : Array TypeId) : objsOf e ⟨dst, .call ⟨.builtin b, args, T⟩, ty, pos, after, gu⟩ = D.namesL (args.toList.map (rd e)) := rfl
end

/-! ### operations that only compute or read -/
section
@[go_sem ↓] theorem opK_move (x : Operand) : opK P n dr ⟨some d, .move x, ty, pos, after, gu⟩ e g K = (d < n ∧ StepK g True (rd e x) (uK e d K)) := rfl
@[go_sem ↓] theorem opK_assign (x : Operand) : opK P n dr ⟨some d, .assign x, ty, pos, after, gu⟩ e g K = (d < n ∧ StepK g True (rd e x) (uK e d K)) := rfl
@[go_sem ↓] theorem opK_binOp (op : BinOp) (t t2 : TypeId) (x y : Operand) : opK P n dr ⟨some d, .binOp op t x y t2, ty, pos, after, gu⟩ e g K = HD (hardY y) (g = true ∧ dr = false ∧ SemK P n ⟨some d, .binOp op t x y t2, ty, pos, after, gu⟩ e K) (d < n ∧ StepK g (binOk P (isConst x || isConst y) op t (rd e x) (rd e y)) (binV op (rd e x) (rd e y)) (uK e d K)) := rfl
@[go_sem ↓] theorem opK_unOp (op : UnOp) (t : TypeId) (x : Operand) : opK P n dr ⟨some d, .unOp op t x, ty, pos, after, gu⟩ e g K = (d < n ∧ StepK g (unopOk op (rd e x)) (unopV op (rd e x)) (uK e d K)) := rfl
@[go_sem ↓] theorem opK_convert (s t : TypeId) (x : Operand) : opK P n dr ⟨some d, .convert s t x, ty, pos, after, gu⟩ e g K = (d < n ∧ StepK g (convOk (tyT P s) (tyT P t) (rd e x)) (convV (tyT P s) (tyT P t) (rd e x)) (uK e d K)) := rfl
def pk (p : Bool) (x y : D) : D := if p then x else y
def pb (p x y : Bool) : Bool := if p then x else y
def pickD (c x y : D) : D := match c with
  | .bool p => pk p x y
  | _ => .undef
def pickOk (c : D) : Prop := match c with
  | .bool _ => True
  | _ => False
@[go_sem] theorem pickD_bool (p : Bool) (x y : D) : pickD (.bool p) x y = pk p x y := rfl
@[go_sem] theorem pickOk_bool (p : Bool) : pickOk (.bool p) = True := rfl
@[congr] theorem pk_congr {p p' : Bool} {x x' y y' : D} (hp : True → p = p') (hx : p' = true → x = x') (hy : p' = false → y = y') : pk p x y = pk p' x' y' := by
  obtain rfl := hp trivial; cases p with
  | true => simp only [pk, if_true]; exact hx rfl
  | false => simp only [pk]; exact hy rfl
@[go_sem ↓] theorem pk_true (x y : D) : pk true x y = x := rfl
@[go_sem ↓] theorem pk_false (x y : D) : pk false x y = y := rfl
@[go_sem] theorem pk_bool (p a b : Bool) : pk p (.bool a) (.bool b) = .bool (pb p a b) := by cases p <;> rfl
@[go_sem] theorem pb_or (p b : Bool) : pb p true b = (p || b) := by cases p <;> rfl
@[go_sem] theorem pb_and (p a : Bool) : pb p a false = (p && a) := by cases p <;> rfl
@[go_sem ↓] theorem opK_pick (c a b : Operand) : opK P n dr ⟨some d, .pick c a b, ty, pos, after, gu⟩ e g K = (d < n ∧ StepK g (pickOk (rd e c)) (pickD (rd e c) (rd e a) (rd e b)) (uK e d K)) := rfl
def faT (t : Ty) (f : Nat) (v : D) : D := match t with
  | .struct fs => faV fs f v
  | _ => .undef
def faTOk (t : Ty) (f : Nat) (v : D) : Prop := match t with
  | .struct fs => faOk fs f v
  | _ => False
@[go_sem] theorem faT_s (fs : List FT) (f : Nat) (v : D) : faT (.struct fs) f v = faV fs f v := rfl
@[go_sem] theorem faTOk_s (fs : List FT) (f : Nat) (v : D) : faTOk (.struct fs) f v = faOk fs f v := rfl
def fldT (t : Ty) (f : Nat) (v : D) : D := match t with
  | .struct fs => fldV fs f v
  | _ => .undef
def fldTOk (t : Ty) (f : Nat) (v : D) : Prop := match t with
  | .struct fs => fldOk fs f v
  | _ => False
@[go_sem] theorem fldT_s (fs : List FT) (f : Nat) (v : D) : fldT (.struct fs) f v = fldV fs f v := rfl
@[go_sem] theorem fldTOk_s (fs : List FT) (f : Nat) (v : D) : fldTOk (.struct fs) f v = fldOk fs f v := rfl
@[go_sem ↓] theorem opK_fieldAddr (t : TypeId) (x : Operand) (f : Nat) : opK P n dr ⟨some d, .fieldAddr t x f, ty, pos, after, gu⟩ e g K = (d < n ∧ StepK g (faTOk (tyT P t) f (rd e x)) (faT (tyT P t) f (rd e x)) (uK e d K)) := rfl
@[go_sem ↓] theorem opK_field (t : TypeId) (x : Operand) (f : Nat) : opK P n dr ⟨some d, .field t x f, ty, pos, after, gu⟩ e g K = (d < n ∧ StepK g (fldTOk (tyT P t) f (rd e x)) (fldT (tyT P t) f (rd e x)) (uK e d K)) := rfl
def iaTOk (e : Env) (t : Ty) (x i : D) : Prop := iaOk e t x i
@[congr] theorem iaTOk_congr {t t' : Ty} {x x' i i' : D} (h1 : True → t = t') (h2 : True → x = x') (h3 : True → i = i') : iaTOk e t x i = iaTOk e t' x' i' := by rw [h1 trivial, h2 trivial, h3 trivial]
def iaT (t : Ty) (x i : D) : D := iaV e0 t x i
theorem iaT_eq (e : Env) (t : Ty) (x i : D) : iaV e t x i = iaT t x i := by unfold iaT iaV; rfl
@[go_sem ↓] theorem opK_indexAddr (t : TypeId) (x i : Operand) : opK P n dr ⟨some d, .indexAddr t x i, ty, pos, after, gu⟩ e g K = (d < n ∧ StepK g (iaTOk e (tyT P t) (rd e x) (rd e i)) (iaT (tyT P t) (rd e x) (rd e i)) (uK e d K)) := by rw [← iaT_eq e]; rfl
@[go_sem ↓] theorem opK_index (t : TypeId) (x i : Operand) : opK P n dr ⟨some d, .index t x i, ty, pos, after, gu⟩ e g K = (d < n ∧ StepK g (ixOk (tyT P t) (rd e x) (rd e i)) (ixV (tyT P t) (rd e x) (rd e i)) (uK e d K)) := rfl
def ldT (e : Env) (l : Option Lay) (a : D) : D := match l with
  | some l => ldV e l a
  | none => .undef
def ldTOk (e : Env) (l : Option Lay) (a : D) : Prop := match l with
  | some l => ldOk e l a
  | none => False
@[congr] theorem ldT_congr {l l' : Option Lay} {a a' : D} (h1 : True → l = l') (h2 : True → a = a') : ldT e l a = ldT e l' a' := by rw [h1 trivial, h2 trivial]
@[congr] theorem ldTOk_congr {l l' : Option Lay} {a a' : D} (h1 : True → l = l') (h2 : True → a = a') : ldTOk e l a = ldTOk e l' a' := by rw [h1 trivial, h2 trivial]
@[go_sem] theorem ldT_addr (l : Lay) (r o : Nat) : ldT e (some l) (.addr r o) = ldB l o (e.o r) := rfl
@[go_sem] theorem ldT_oaddr (l : Lay) (r z i k : Nat) : ldT e (some l) (.oaddr r z i k) = ldW l i k (e.o r) := rfl
@[go_sem] theorem ldT_eaddr (l : Lay) (cs : List D) : ldT e (some l) (.eaddr cs) = part l.agg 0 l.sz cs := rfl
@[go_sem] theorem ldTOk_addr (l : Lay) (r o : Nat) : ldTOk e (some l) (.addr r o) = ldBOk l o (e.o r) := rfl
@[go_sem] theorem ldTOk_oaddr (l : Lay) (r z i k : Nat) : ldTOk e (some l) (.oaddr r z i k) = ldWOk l z i k (e.o r) := rfl
@[go_sem] theorem ldTOk_eaddr (l : Lay) (cs : List D) : ldTOk e (some l) (.eaddr cs) = (l.sz ≤ cs.length ∧ layOk l) := rfl
@[go_sem] theorem ldB_box (l : Lay) (o : Nat) (cs : List D) : ldB l o (.box cs) = part l.agg o l.sz cs := rfl
@[go_sem] theorem ldBOk_box (l : Lay) (o : Nat) (cs : List D) : ldBOk l o (.box cs) = (o + l.sz ≤ cs.length ∧ layOk l) := rfl
@[go_sem] theorem ldW_own (l : Lay) (i k z : Nat) (rows : List (List D)) : ldW l i k (.own z rows) = part l.agg k l.sz (rows.getD i []) := rfl
@[go_sem] theorem ldWOk_own (l : Lay) (z i k z' : Nat) (rows : List (List D)) : ldWOk l z i k (.own z' rows) = (z' = z ∧ i < rows.length ∧ k + l.sz ≤ z ∧ layOk l) := rfl
@[go_sem] theorem layOk_f : layOk ⟨false, 1⟩ = True := by simp [layOk]
@[go_sem] theorem layOk_t (m : Nat) : layOk ⟨true, m⟩ = (1 ≤ m) := by simp [layOk]
@[go_sem ↓] theorem opK_load (t : TypeId) (a : Operand) : opK P n dr ⟨some d, .load t a, ty, pos, after, gu⟩ e g K = (d < n ∧ StepK g (ldTOk e (layT P t) (rd e a)) (ldT e (layT P t) (rd e a)) (uK e d K)) := rfl
@[go_sem ↓] theorem opK_nilCheck (x : Operand) : opK P n dr ⟨some d, .nilCheck x, ty, pos, after, gu⟩ e g K = (d < n ∧ StepK g (nilOk (rd e x)) (rd e x) (uK e d K)) := rfl
def extV (v : D) (i : Nat) : D := match v with
  | .tup ds => ds.getD i .undef
  | _ => .undef
def extOk (v : D) (i : Nat) : Prop := match v with
  | .tup ds => i < ds.length
  | _ => False
@[go_sem] theorem extV_tup (ds : List D) (i : Nat) : extV (.tup ds) i = ds.getD i .undef := rfl
@[go_sem] theorem extOk_tup (ds : List D) (i : Nat) : extOk (.tup ds) i = (i < ds.length) := rfl
@[go_sem ↓] theorem opK_extract (x : Operand) (i : Nat) : opK P n dr ⟨some d, .extract x i, ty, pos, after, gu⟩ e g K = (d < n ∧ StepK g (extOk (rd e x) i) (extV (rd e x) i) (uK e d K)) := rfl
@[go_sem ↓] theorem opK_makeFunc (f : FuncId) (first caps : Array Operand) : opK P n dr ⟨some d, .makeFunc (.func f) first caps, ty, pos, after, gu⟩ e g K = (d < n ∧ StepK g (first = #[]) (.fn f (caps.toList.map (rd e))) (uK e d K)) := rfl
/-! len, max, min -/
def lenT (e : Env) (t : Ty) (x : D) : D := lenV e t x
def lenTOk (e : Env) (t : Ty) (x : D) : Prop := lenOk e t x
@[congr] theorem lenT_congr {t t' : Ty} {x x' : D} (h1 : True → t = t') (h2 : True → x = x') : lenT e t x = lenT e t' x' := by rw [h1 trivial, h2 trivial]
@[congr] theorem lenTOk_congr {t t' : Ty} {x x' : D} (h1 : True → t = t') (h2 : True → x = x') : lenTOk e t x = lenTOk e t' x' := by rw [h1 trivial, h2 trivial]
@[go_sem ↓] theorem opK_len (x : Operand) (T : TypeId) : opK P n dr ⟨some d, .call ⟨.builtin .len, #[x], #[T]⟩, ty, pos, after, gu⟩ e g K = (d < n ∧ StepK g (lenTOk e (tyT P T) (rd e x)) (lenT e (tyT P T) (rd e x)) (uK e d K)) := rfl
@[go_sem ↓] theorem opK_max (l : List Operand) (T : Array TypeId) : opK P n dr ⟨some d, .call ⟨.builtin .max, l.toArray, T⟩, ty, pos, after, gu⟩ e g K = (d < n ∧ StepK g (l ≠ [] ∧ intsOk (l.map (rd e))) (foldD max2D (l.map (rd e))) (uK e d K)) := by simp only [opK, pureOk, pureV]; rfl
@[go_sem ↓] theorem opK_min (l : List Operand) (T : Array TypeId) : opK P n dr ⟨some d, .call ⟨.builtin .min, l.toArray, T⟩, ty, pos, after, gu⟩ e g K = (d < n ∧ StepK g (l ≠ [] ∧ intsOk (l.map (rd e))) (foldD min2D (l.map (rd e))) (uK e d K)) := by simp only [opK, pureOk, pureV]; rfl
/-! parts of slices -/
def slD2 (e : Env) (t : Ty) (x lo hi : D) : D := match lo, hi with
  | .int _ l, .int _ h => slD e t x l.toNat h.toNat
  | _, _ => .undef
def slT (e : Env) (t : Ty) (x lo : D) (hi : Option D) : D := slD2 e t x lo (hi.getD (.int .i64 (slNd (slN e t x))))
def slTOk (e : Env) (t : Ty) (x lo : D) (hi : Option D) : Prop := SlK (slC e t x) lo (hi.getD (.int .i64 (slNd (slN e t x)))) fun _ _ _ => True
@[congr] theorem slT_congr {t t' : Ty} {x x' lo lo' : D} {hi hi' : Option D} (h1 : True → t = t') (h2 : True → x = x') (h3 : True → lo = lo') (h4 : True → hi = hi') : slT e t x lo hi = slT e t' x' lo' hi' := by rw [h1 trivial, h2 trivial, h3 trivial, h4 trivial]
@[congr] theorem slTOk_congr {t t' : Ty} {x x' lo lo' : D} {hi hi' : Option D} (h1 : True → t = t') (h2 : True → x = x') (h3 : True → lo = lo') (h4 : True → hi = hi') : slTOk e t x lo hi = slTOk e t' x' lo' hi' := by rw [h1 trivial, h2 trivial, h3 trivial, h4 trivial]
def loT (e : Env) (lo : Option Operand) : D := slB e 0 lo
@[go_sem ↓] theorem loT_none : loT e none = .int .i64 0 := rfl
@[go_sem ↓] theorem loT_some (x : Operand) : loT e (some x) = rd e x := rfl
@[go_sem ↓] theorem opK_slice (t : TypeId) (x : Operand) (lo : Option Operand) : opK P n dr ⟨some d, .slice t x lo none none, ty, pos, after, gu⟩ e g K = (d < n ∧ StepK g (slTOk e (tyT P t) (rd e x) (loT e lo) none) (slT e (tyT P t) (rd e x) (loT e lo) none) (uK e d K)) := rfl
@[go_sem ↓] theorem opK_sliceH (t : TypeId) (x : Operand) (lo : Option Operand) (hi : Operand) : opK P n dr ⟨some d, .slice t x lo (some hi) none, ty, pos, after, gu⟩ e g K = (d < n ∧ StepK g (slTOk e (tyT P t) (rd e x) (loT e lo) (some (rd e hi))) (slT e (tyT P t) (rd e x) (loT e lo) (some (rd e hi))) (uK e d K)) := rfl
@[go_sem ↓] theorem opK_slice3 (t : TypeId) (x hi mx : Operand) : opK P n dr ⟨some d, .slice t x none (some hi) (some mx), ty, pos, after, gu⟩ e g K = (d < n ∧ StepK g (isSlTy (tyT P t) ∧ isSlD (rd e x) ∧ isZero (rd e hi) ∧ isZero (rd e mx)) .emp (uK e d K)) := rfl
/-! aggregates -/
def bldT (t : Ty) (ps : List (Nat × D)) : List (Nat × Nat × D) := match t with
  | .struct fs => ps.map fun x => match fs[x.1]? with
    | some f => (f.off, f.sz, x.2)
    | none => (0, 0, .undef)
  | .arr _ z _ => ps.map fun x => (x.1 * z, z, x.2)
  | _ => []
theorem buildParts_eq (t : TypeId) (parts : List (Nat × Operand)) : buildParts P e t parts = bldT (tyT P t) (parts.map fun x => (x.1, rd e x.2)) := by
  unfold buildParts bldT
  cases tyT P t <;> simp only [List.map_map, Function.comp_def] <;> rfl
def bldV (t : Ty) (z : Option (List D)) (ps : List (Nat × D)) : D := match z with
  | some z => .agg (fillD z (bldT t ps))
  | none => .undef
def bldOk (t : Ty) (z : Option (List D)) (ps : List (Nat × D)) : Prop := match z with
  | some z => (match t with
    | .struct fs => ∀ x ∈ ps, x.1 < fs.length
    | .arr _ _ _ => True
    | _ => False) ∧ fillOk z.length (bldT t ps)
  | none => False
theorem partsOk_eq (t : TypeId) (parts : List (Nat × Operand)) : partsOk P e t parts = bldOk (tyT P t) (zeroT P t) (parts.map fun x => (x.1, rd e x.2)) := by
  unfold partsOk bldOk
  rw [buildParts_eq]
  cases hz : zeroT P t with
  | none => simp
  | some z =>
    simp only [Option.some.injEq, exists_eq_left', eq_iff_iff]
    refine and_congr ?_ Iff.rfl
    cases tyT P t <;> simp only
    simp only [List.forall_mem_map]
@[go_sem ↓] theorem opK_build (t : TypeId) (parts : Array (Nat × Operand)) : opK P n dr ⟨some d, .build t parts, ty, pos, after, gu⟩ e g K =
    (d < n ∧ StepK g (bldOk (tyT P t) (zeroT P t) (parts.toList.map fun x => (x.1, rd e x.2))) (bldV (tyT P t) (zeroT P t) (parts.toList.map fun x => (x.1, rd e x.2))) (uK e d K)) := by
  rw [← partsOk_eq]
  have : bldV (tyT P t) (zeroT P t) (parts.toList.map fun x => (x.1, rd e x.2)) = pureV P e (.build t parts) := by
    unfold pureV bldV
    simp only [buildParts_eq]
    rfl
  rw [this]
  rfl
@[go_sem] theorem bldV_some (t : Ty) (z : List D) (ps : List (Nat × D)) : bldV t (some z) ps = .agg (fillD z (bldT t ps)) := rfl
@[go_sem] theorem bldOk_some (fs : List FT) (z : List D) (ps : List (Nat × D)) : bldOk (.struct fs) (some z) ps = ((∀ x ∈ ps, x.1 < fs.length) ∧ fillOk z.length (bldT (.struct fs) ps)) := rfl
@[go_sem] theorem bldOk_arr (n s : Nat) (a : Bool) (z : List D) (ps : List (Nat × D)) : bldOk (.arr n s a) (some z) ps = fillOk z.length (bldT (.arr n s a) ps) := by simp [bldOk]
def bldF (f : Option FT) (v : D) : Nat × Nat × D := match f with
  | some f => (f.off, f.sz, v)
  | none => (0, 0, .undef)
@[go_sem] theorem bldT_struct (fs : List FT) (ps : List (Nat × D)) : bldT (.struct fs) ps = ps.map fun x => bldF fs[x.1]? x.2 := rfl
@[go_sem] theorem bldT_arr (n z : Nat) (a : Bool) (ps : List (Nat × D)) : bldT (.arr n z a) ps = ps.map fun x => (x.1 * z, z, x.2) := rfl
@[go_sem] theorem bldF_some (o s : Nat) (a : Bool) (v : D) : bldF (some ⟨o, s, a⟩) v = (o, s, v) := rfl
@[go_sem] theorem allp_nil (f : Nat × D → Prop) : (∀ c ∈ ([] : List (Nat × D)), f c) = True := by simp
@[go_sem] theorem allp_cons (f : Nat × D → Prop) (a : Nat × D) (l : List (Nat × D)) : (∀ c ∈ a :: l, f c) = (f a ∧ ∀ c ∈ l, f c) := by simp
@[go_sem] theorem alld_nil (f : D → Prop) : (∀ c ∈ ([] : List D), f c) = True := by simp
@[go_sem] theorem alld_cons (f : D → Prop) (a : D) (l : List D) : (∀ c ∈ a :: l, f c) = (f a ∧ ∀ c ∈ l, f c) := by simp
end

/-! ### operations that make or change objects -/
def IsU (d : D) : Prop := d = .undef
@[go_sem] theorem IsU_undef : IsU .undef = True := by simp [IsU]
/-- a new object, with a slice's head in the slot -/
def moK (e : Env) (d : Nat) (K : Env → Prop) (ob : D) (r : Nat) : Prop := IsU (e.o r) ∧ K (updT (updO e r ob) d (.ref r))
/-- a new object, with its address in the slot -/
def maK (e : Env) (d : Nat) (K : Env → Prop) (ob : D) (r : Nat) : Prop := IsU (e.o r) ∧ K (updT (updO e r ob) d (.addr r 0))
@[go_sem ↓] theorem moK_eq (ob : D) (r : Nat) : moK e d K ob r = (IsU (e.o r) ∧ K (updT (updO e r ob) d (.ref r))) := rfl
@[go_sem ↓] theorem maK_eq (ob : D) (r : Nat) : maK e d K ob r = (IsU (e.o r) ∧ K (updT (updO e r ob) d (.addr r 0))) := rfl
def moN (e : Env) (d : Nat) (K : Env → Prop) (ob : D) : Prop := NormN (nm d 0) (moK e d K ob)
def maN (e : Env) (d : Nat) (K : Env → Prop) (ob : D) : Prop := NormN (nm d 0) (maK e d K ob)
@[go_sem ↓] theorem moN_eq (ob : D) : moN e d K ob = NormN (nm d 0) (moK e d K ob) := rfl
@[go_sem ↓] theorem maN_eq (ob : D) : maN e d K ob = NormN (nm d 0) (maK e d K ob) := rfl
@[go_sem] theorem nm_eq (d k : Nat) : nm d k = 16 * (d + 1) + k := rfl
def uoK (e : Env) (r : Nat) (K : Env → Prop) (ob : D) : Prop := K (updO e r ob)
@[go_sem ↓] theorem uoK_eq (r : Nat) (ob : D) : uoK e r K ob = K (updO e r ob) := rfl
/-! stores -/
def StBL (e : Env) (r off : Nat) (v : D) (K : Env → Prop) (l : Option Lay) (ob : D) : Prop :=
  match l, ob with
  | some l, .box cs => off + l.sz ≤ cs.length ∧ v.cells.length = l.sz ∧ (∀ c ∈ v.cells, cellOk c) ∧ K (updO e r (.box (wput cs off v.cells)))
  | _, _ => False
def StOL (e : Env) (r z i k : Nat) (v : D) (K : Env → Prop) (l : Option Lay) (ob : D) : Prop :=
  match l, ob with
  | some l, .own z' rows => z' = z ∧ i < rows.length ∧ k + l.sz ≤ z ∧ v.cells.length = l.sz ∧ (∀ c ∈ v.cells, permOk c) ∧ K (updO e r (.own z (rows.set i (wput (rows.getD i []) k v.cells))))
  | _, _ => False
@[congr] theorem StBL_congr {r off : Nat} {v : D} {l l' : Option Lay} {ob ob' : D} (h1 : True → l = l') (h2 : True → ob = ob') : StBL e r off v K l ob = StBL e r off v K l' ob' := by rw [h1 trivial, h2 trivial]
@[congr] theorem StOL_congr {r z i k : Nat} {v : D} {l l' : Option Lay} {ob ob' : D} (h1 : True → l = l') (h2 : True → ob = ob') : StOL e r z i k v K l ob = StOL e r z i k v K l' ob' := by rw [h1 trivial, h2 trivial]
@[go_sem] theorem StBL_box (r off sz : Nat) (a : Bool) (v : D) (cs : List D) : StBL e r off v K (some ⟨a, sz⟩) (.box cs) = (off + sz ≤ cs.length ∧ v.cells.length = sz ∧ (∀ c ∈ v.cells, cellOk c) ∧ Norm (dm (.box (wput cs off v.cells))) (uoK e r K)) := rfl
@[go_sem] theorem StOL_own (r z i k sz z' : Nat) (a : Bool) (v : D) (rows : List (List D)) : StOL e r z i k v K (some ⟨a, sz⟩) (.own z' rows) =
    (z' = z ∧ i < rows.length ∧ k + sz ≤ z ∧ v.cells.length = sz ∧ (∀ c ∈ v.cells, permOk c) ∧ Norm (dm (.own z (rows.set i (wput (rows.getD i []) k v.cells)))) (uoK e r K)) := rfl
@[go_sem ↓] theorem StK_addr (t : TypeId) (r off : Nat) (v : D) : StK P e t (.addr r off) K v = StBL e r off v K (layT P t) (e.o r) := by
  show StB P e t r off v K (e.o r) = _
  unfold StB StBL
  cases e.o r <;> cases layT P t <;> rfl
@[go_sem ↓] theorem StK_oaddr (t : TypeId) (r z i k : Nat) (v : D) : StK P e t (.oaddr r z i k) K v = StOL e r z i k v K (layT P t) (e.o r) := by
  show StO P e t r z i k v K (e.o r) = _
  unfold StO StOL
  cases e.o r <;> cases layT P t <;> rfl
def stK (P : Program) (e : Env) (t : TypeId) (x : Operand) (K : Env → Prop) (a : D) : Prop := Norm (dm (rd e x)) (StK P e t a K)
@[go_sem ↓] theorem stK_eq (t : TypeId) (x : Operand) (a : D) : stK P e t x K a = Norm (dm (rd e x)) (StK P e t a K) := rfl
@[go_sem ↓] theorem opK_store (t : TypeId) (a x : Operand) : opK P n dr ⟨none, .store t a x, ty, pos, after, gu⟩ e g K = (g = true ∧ Norm (dm (rd e a)) (stK P e t x K)) := rfl
@[go_sem ↓] theorem BoxK_eq (v : D) : BoxK e d K v = ((∀ c ∈ v.cells, cellOk c) ∧ Norm (dm (.box v.cells)) (maN e d K)) := rfl
@[go_sem ↓] theorem opK_box (t : TypeId) (x : Operand) : opK P n dr ⟨some d, .box t x, ty, pos, after, gu⟩ e g K = (g = true ∧ d < n ∧ Norm (dm (rd e x)) (BoxK e d K)) := rfl
@[congr] theorem AlcK_congr {z z' : Option (List D)} (h : True → z = z') : AlcK e d K z = AlcK e d K z' := by rw [h trivial]
@[go_sem] theorem AlcK_some (z : List D) : AlcK e d K (some z) = maN e d K (.box z) := rfl
@[go_sem ↓] theorem opK_alloc (t : TypeId) : opK P n dr ⟨some d, .alloc t, ty, pos, after, gu⟩ e g K = (g = true ∧ d < n ∧ AlcK e d K (zeroT P t)) := rfl
/-! slices made whole -/
def BsC (e : Env) (d : Nat) (K : Env → Prop) (z len : Nat) (cs : List D) : Prop := (∀ c ∈ cs, permOk c) ∧ Norm (dm (.own z (rowsOf z len cs))) (moN e d K)
@[congr] theorem BsC_congr {z len : Nat} {cs cs' : List D} (h : True → cs = cs') : BsC e d K z len cs = BsC e d K z len cs' := by rw [h trivial]
@[go_sem] theorem BsC_eq (z len : Nat) (cs : List D) : BsC e d K z len cs = ((∀ c ∈ cs, permOk c) ∧ Norm (dm (.own z (rowsOf z len cs))) (moN e d K)) := rfl
def BsV (e : Env) (len d : Nat) (K : Env → Prop) (z : Nat) (zc : List D) (ps : List (Nat × Nat × D)) : Prop :=
  len * z ≤ 2 ^ 24 ∧ zc.length = z ∧ fillOk (len * z) ps ∧ BsC e d K z len (lm (fillD (List.replicate len zc).flatten ps))
@[congr] theorem BsV_congr {len z : Nat} {zc : List D} {ps ps' : List (Nat × Nat × D)} (h : True → ps = ps') : BsV e len d K z zc ps = BsV e len d K z zc ps' := by rw [h trivial]
@[go_sem] theorem BsV_eq (len z : Nat) (zc : List D) (ps : List (Nat × Nat × D)) : BsV e len d K z zc ps = (len * z ≤ 2 ^ 24 ∧ zc.length = z ∧ fillOk (len * z) ps ∧ BsC e d K z len (lm (fillD (List.replicate len zc).flatten ps))) := rfl
@[congr] theorem BsK_congr {len : Nat} {ps : List (Nat × Operand)} {t t' : Ty} {z z' : Option (List D)} (h1 : True → t = t') (h2 : True → z = z') : BsK e len ps d K t z = BsK e len ps d K t' z' := by rw [h1 trivial, h2 trivial]
@[go_sem] theorem BsK_eq (len z by_ : Nat) (a : Bool) (zc : List D) (ps : List (Nat × Operand)) : BsK e len ps d K (.slice z by_ a) (some zc) = BsV e len d K z zc (lm (ps.map fun x => (x.1 * z, z, rd e x.2))) := rfl
def BsP (e : Env) (len : Nat) (ps : List (Nat × Operand)) (dr : Bool) (d : Nat) (K : Env → Prop) (t : Ty) (z : Option (List D)) (ns : List Nat) : Prop := (dr = true → ns = []) ∧ BsK (frzEL ns e) len ps d K t z
@[congr] theorem BsP_congr {len : Nat} {ps : List (Nat × Operand)} {t : Ty} {z : Option (List D)} {ns ns' : List Nat} (h : True → ns = ns') : BsP e len ps dr d K t z ns = BsP e len ps dr d K t z ns' := by rw [h trivial]
@[go_sem] theorem BsP_nil (len : Nat) (ps : List (Nat × Operand)) (t : Ty) (z : Option (List D)) : BsP e len ps dr d K t z [] = BsK e len ps d K t z := by simp [BsP, frzEL]
@[go_sem] theorem BsP_cons (len : Nat) (ps : List (Nat × Operand)) (t : Ty) (z : Option (List D)) (r : Nat) (rs : List Nat) : BsP e len ps false d K t z (r :: rs) = BsK (frzEL rs (frzE r e)) len ps d K t z := by simp [BsP, frzEL]
@[go_sem ↓] theorem opK_buildSlice (t : TypeId) (len : Nat) (parts : Array (Nat × Operand)) : opK P n dr ⟨some d, .buildSlice t len parts, ty, pos, after, gu⟩ e g K =
    HD (t == ptrS) (g = true ∧ dr = false ∧ SemK P n ⟨some d, .buildSlice t len parts, ty, pos, after, gu⟩ e K) (d < n ∧ GK g (BsP e len parts.toList dr d K (tyT P t) (zeroElemT P t) (lm (D.namesL (parts.toList.map fun x => rd e x.2)))) (K (updT e d (.tup [])))) := by
  unfold opK HD
  rfl
@[congr] theorem MkK_congr {l l' c c' : D} {t t' : Ty} {z z' : Option (List D)} (h1 : True → l = l') (h2 : True → c = c') (h3 : True → t = t') (h4 : True → z = z') : MkK e d K l c t z = MkK e d K l' c' t' z' := by rw [h1 trivial, h2 trivial, h3 trivial, h4 trivial]
@[go_sem] theorem MkK_eq (k k' : IntKind) (l c : Int) (z by_ : Nat) (a : Bool) (zc : List D) : MkK e d K (.int k l) (.int k' c) (.slice z by_ a) (some zc) =
    (0 ≤ l ∧ l ≤ c ∧ c ≤ 2 ^ 40 ∧ by_ * c ≤ 2 ^ 47 ∧ zc.length = z ∧ (∀ d ∈ zc, permOk d) ∧ Norm (dm (.own z (List.replicate l.toNat zc))) (moN e d K)) := rfl
@[go_sem ↓] theorem opK_makeSlice (t : TypeId) (l c : Operand) : opK P n dr ⟨some d, .makeSlice t l c, ty, pos, after, gu⟩ e g K = (d < n ∧ GK g (MkK e d K (dm (rd e l)) (rd e c) (tyT P t) (zeroElemT P t)) (K (updT e d (.tup [])))) := rfl
/-! append -/
def apN (z by_ : Nat) (rows rows2 : List (List D)) (e : Env) (d : Nat) (K : Env → Prop) : Prop := (by_ + 1) * (rows.length + rows2.length) ≤ 2 ^ 45 ∧ Norm (dm (.own z (rows ++ rows2))) (moN e d K)
@[go_sem ↓] theorem apN_eq (z by_ : Nat) (rows rows2 : List (List D)) : apN z by_ rows rows2 e d K = ((by_ + 1) * (rows.length + rows2.length) ≤ 2 ^ 45 ∧ Norm (dm (.own z (rows ++ rows2))) (moN e d K)) := rfl
def ap0N (z by_ : Nat) (rows2 : List (List D)) (e : Env) (d : Nat) (K : Env → Prop) : Prop := (by_ + (1 - by_)) * rows2.length ≤ 2 ^ 47 ∧ Norm (dm (.own z rows2)) (moN e d K)
@[go_sem ↓] theorem ap0N_eq (z by_ : Nat) (rows2 : List (List D)) : ap0N z by_ rows2 e d K = ((by_ + (1 - by_)) * rows2.length ≤ 2 ^ 47 ∧ Norm (dm (.own z rows2)) (moN e d K)) := rfl
def ApO (e : Env) (z by_ d : Nat) (rows2 : List (List D)) (K : Env → Prop) (r : Nat) (ob : D) : Prop := AppA e z by_ d rows2 K r ob
@[congr] theorem ApO_congr {z by_ r : Nat} {rows2 : List (List D)} {ob ob' : D} (h : True → ob = ob') : ApO e z by_ d rows2 K r ob = ApO e z by_ d rows2 K r ob' := by rw [h trivial]
@[go_sem] theorem ApO_own (z by_ r z' : Nat) (rows rows2 : List (List D)) : ApO e z by_ d rows2 K r (.own z' rows) = (z' = z ∧ apN z by_ rows rows2 (killE r e) d K) := rfl
@[congr] theorem AppY_congr {z by_ : Nat} {x x' : D} {y y' : Option (List (List D))} (h1 : True → x = x') (h2 : True → y = y') : AppY e z by_ d K x y = AppY e z by_ d K x' y' := by rw [h1 trivial, h2 trivial]
@[go_sem] theorem AppY_nil (z by_ : Nat) (rows2 : List (List D)) : AppY e z by_ d K .nil (some rows2) = ap0N z by_ rows2 e d K := by simp [AppY, ap0N, Norm, dm, moN, moK, NormN, IsU]
@[go_sem] theorem AppY_emp (z by_ : Nat) (rows2 : List (List D)) : AppY e z by_ d K .emp (some rows2) = ap0N z by_ rows2 e d K := by simp [AppY, ap0N, Norm, dm, moN, moK, NormN, IsU]
@[go_sem] theorem AppY_ref (z by_ r : Nat) (rows2 : List (List D)) : AppY e z by_ d K (.ref r) (some rows2) = ApO e z by_ d rows2 K r (dm (e.o r)) := rfl
/-- what is lent: evaluated by its own rules -/
def bo (e : Env) (x : List Nat) (k : Nat) (d : D) : D := bor e.o x k d
@[congr] theorem bo_congr {x : List Nat} {k : Nat} {d d' : D} (h : True → d = d') : bo e x k d = bo e x k d' := by rw [h trivial]
@[congr] theorem AppK_congr {x x' y y' : D} {t t' t2 t2' : Ty} (h1 : True → x = x') (h2 : True → y = y') (h3 : True → t = t') (h4 : True → t2 = t2') : AppK e d K x y t t2 = AppK e d K x' y' t' t2' := by rw [h1 trivial, h2 trivial, h3 trivial, h4 trivial]
@[go_sem] theorem AppK_eq (x y : D) (z by_ z2 b2 : Nat) (a a2 : Bool) : AppK e d K x y (.slice z by_ a) (.slice z2 b2 a2) = (by_ ≤ 2 ^ 32 ∧ AppY e z by_ d K x (rowsD z (bo e [] 2 (dm y)))) := rfl
@[congr] theorem AppX_congr {S : Prop} {x x' y y' : D} {t t' t2 t2' : Ty} (h1 : True → x = x') (h2 : True → y = y') (h3 : True → t = t') (h4 : True → t2 = t2') : AppX e d K S x y t t2 = AppX e d K S x' y' t' t2' := by rw [h1 trivial, h2 trivial, h3 trivial, h4 trivial]
@[go_sem] theorem AppX_bsub (S : Prop) (r o z l c : Nat) (y : D) (t t2 : Ty) : AppX e d K S (.bsub r o z l c) y t t2 = S := rfl
@[go_sem] theorem AppX_nil_int (S : Prop)  (k : IntKind) (m : Int) (t t2 : Ty) : AppX e d K S .nil (.int k m) t t2 = S := rfl
@[go_sem] theorem AppX_nil_nil (S : Prop)   (t t2 : Ty) : AppX e d K S .nil .nil t t2 = AppK e d K .nil .nil t t2 := rfl
@[go_sem] theorem AppX_nil_emp (S : Prop)   (t t2 : Ty) : AppX e d K S .nil .emp t t2 = AppK e d K .nil .emp t t2 := rfl
@[go_sem] theorem AppX_nil_ref (S : Prop)  (r' : Nat) (t t2 : Ty) : AppX e d K S .nil (.ref r') t t2 = AppK e d K .nil (.ref r') t t2 := rfl
@[go_sem] theorem AppX_nil_sl (S : Prop)  (z : Nat) (rows : List (List D)) (t t2 : Ty) : AppX e d K S .nil (.sl z rows) t t2 = AppK e d K .nil (.sl z rows) t t2 := rfl
@[go_sem] theorem AppX_nil_osub (S : Prop)  (q z lo l : Nat) (t t2 : Ty) : AppX e d K S .nil (.osub q z lo l) t t2 = AppK e d K .nil (.osub q z lo l) t t2 := rfl
@[go_sem] theorem AppX_nil_bsub (S : Prop)  (q o z l c : Nat) (t t2 : Ty) : AppX e d K S .nil (.bsub q o z l c) t t2 = AppK e d K .nil (.bsub q o z l c) t t2 := rfl
@[go_sem] theorem AppX_nil_str (S : Prop)  (s : ByteArray) (t t2 : Ty) : AppX e d K S .nil (.str s) t t2 = AppK e d K .nil (.str s) t t2 := rfl
@[go_sem] theorem AppX_emp_int (S : Prop)  (k : IntKind) (m : Int) (t t2 : Ty) : AppX e d K S .emp (.int k m) t t2 = S := rfl
@[go_sem] theorem AppX_emp_nil (S : Prop)   (t t2 : Ty) : AppX e d K S .emp .nil t t2 = AppK e d K .emp .nil t t2 := rfl
@[go_sem] theorem AppX_emp_emp (S : Prop)   (t t2 : Ty) : AppX e d K S .emp .emp t t2 = AppK e d K .emp .emp t t2 := rfl
@[go_sem] theorem AppX_emp_ref (S : Prop)  (r' : Nat) (t t2 : Ty) : AppX e d K S .emp (.ref r') t t2 = AppK e d K .emp (.ref r') t t2 := rfl
@[go_sem] theorem AppX_emp_sl (S : Prop)  (z : Nat) (rows : List (List D)) (t t2 : Ty) : AppX e d K S .emp (.sl z rows) t t2 = AppK e d K .emp (.sl z rows) t t2 := rfl
@[go_sem] theorem AppX_emp_osub (S : Prop)  (q z lo l : Nat) (t t2 : Ty) : AppX e d K S .emp (.osub q z lo l) t t2 = AppK e d K .emp (.osub q z lo l) t t2 := rfl
@[go_sem] theorem AppX_emp_bsub (S : Prop)  (q o z l c : Nat) (t t2 : Ty) : AppX e d K S .emp (.bsub q o z l c) t t2 = AppK e d K .emp (.bsub q o z l c) t t2 := rfl
@[go_sem] theorem AppX_emp_str (S : Prop)  (s : ByteArray) (t t2 : Ty) : AppX e d K S .emp (.str s) t t2 = AppK e d K .emp (.str s) t t2 := rfl
@[go_sem] theorem AppX_ref_int (S : Prop) (r : Nat) (k : IntKind) (m : Int) (t t2 : Ty) : AppX e d K S (.ref r) (.int k m) t t2 = S := rfl
@[go_sem] theorem AppX_ref_nil (S : Prop) (r : Nat)  (t t2 : Ty) : AppX e d K S (.ref r) .nil t t2 = AppK e d K (.ref r) .nil t t2 := rfl
@[go_sem] theorem AppX_ref_emp (S : Prop) (r : Nat)  (t t2 : Ty) : AppX e d K S (.ref r) .emp t t2 = AppK e d K (.ref r) .emp t t2 := rfl
@[go_sem] theorem AppX_ref_ref (S : Prop) (r : Nat) (r' : Nat) (t t2 : Ty) : AppX e d K S (.ref r) (.ref r') t t2 = AppK e d K (.ref r) (.ref r') t t2 := rfl
@[go_sem] theorem AppX_ref_sl (S : Prop) (r : Nat) (z : Nat) (rows : List (List D)) (t t2 : Ty) : AppX e d K S (.ref r) (.sl z rows) t t2 = AppK e d K (.ref r) (.sl z rows) t t2 := rfl
@[go_sem] theorem AppX_ref_osub (S : Prop) (r : Nat) (q z lo l : Nat) (t t2 : Ty) : AppX e d K S (.ref r) (.osub q z lo l) t t2 = AppK e d K (.ref r) (.osub q z lo l) t t2 := rfl
@[go_sem] theorem AppX_ref_bsub (S : Prop) (r : Nat) (q o z l c : Nat) (t t2 : Ty) : AppX e d K S (.ref r) (.bsub q o z l c) t t2 = AppK e d K (.ref r) (.bsub q o z l c) t t2 := rfl
@[go_sem] theorem AppX_ref_str (S : Prop) (r : Nat) (s : ByteArray) (t t2 : Ty) : AppX e d K S (.ref r) (.str s) t t2 = AppK e d K (.ref r) (.str s) t t2 := rfl
@[go_sem ↓] theorem opK_append (x y : Operand) (T T2 : TypeId) : opK P n dr ⟨some d, .call ⟨.builtin .append, #[x, y], #[T, T2]⟩, ty, pos, after, gu⟩ e g K = (d < n ∧ g = true ∧ dr = false ∧ AppX e d K (SemK P n ⟨some d, .call ⟨.builtin .append, #[x, y], #[T, T2]⟩, ty, pos, after, gu⟩ e K) (dm (rd e x)) (rd e y) (tyT P T) (tyT P T2)) := rfl
@[congr] theorem Emp0_congr {t t' : Ty} (h : True → t = t') : Emp0 e d K t = Emp0 e d K t' := by rw [h trivial]
def em0K (e : Env) (d : Nat) (K : Env → Prop) (r : Nat) : Prop := IsU (e.o r) ∧ K (updT e d .emp)
@[go_sem ↓] theorem em0K_eq (r : Nat) : em0K e d K r = (IsU (e.o r) ∧ K (updT e d .emp)) := rfl
@[go_sem] theorem Emp0_eq (z b : Nat) (a : Bool) : Emp0 e d K (.slice z b a) = NormN (nm d 0) (em0K e d K) := rfl
@[congr] theorem AppF_congr {z by_ : Nat} {y y' : Option (List (List D))} (h : True → y = y') : AppF e z by_ d K y = AppF e z by_ d K y' := by rw [h trivial]
@[go_sem] theorem AppF_some (z by_ : Nat) (rows2 : List (List D)) : AppF e z by_ d K (some rows2) = ap0N z by_ rows2 e d K := by simp [AppF, ap0N, Norm, dm, moN, moK, NormN, IsU]
@[congr] theorem AppS_congr {x x' y y' : D} {t t' t2 t2' : Ty} (h1 : True → x = x') (h2 : True → y = y') (h3 : True → t = t') (h4 : True → t2 = t2') : AppS e d K x y t t2 = AppS e d K x' y' t' t2' := by rw [h1 trivial, h2 trivial, h3 trivial, h4 trivial]
@[go_sem] theorem AppS_eq (y : D) (z by_ z2 b2 : Nat) (a a2 : Bool) : AppS e d K .emp y (.slice z by_ a) (.slice z2 b2 a2) = (by_ ≤ 2 ^ 32 ∧ AppF e z by_ d K (rowsD z (bo e [] 2 (dm y)))) := rfl
@[go_sem ↓] theorem softK_lit (t : TypeId) (len : Nat) (ps : Array (Nat × Operand)) : softK P n np ops ⟨some d, .buildSlice t len ps, ty, pos, after, gu⟩ e K = (d < n ∧ Emp0 e d K (tyT P t)) := rfl
@[go_sem ↓] theorem softK_app (x y : Operand) (T T2 : TypeId) : softK P n np ops ⟨some d, .call ⟨.builtin .append, #[x, y], #[T, T2]⟩, ty, pos, after, gu⟩ e K = (d < n ∧ AoK np ops ⟨some d, .call ⟨.builtin .append, #[x, y], #[T, T2]⟩, ty, pos, after, gu⟩ (rchE e 2 (lm (rd e y).names)) ∧ AppS e d K (dm (rd e x)) (dm (rd e y)) (tyT P T) (tyT P T2)) := rfl
@[go_sem ↓] theorem appA_append (x y : Operand) (T T2 : TypeId) : appA P n ⟨some d, .call ⟨.builtin .append, #[x, y], #[T, T2]⟩, ty, pos, after, gu⟩ e g K = (d < n ∧ g = true ∧ AppK e d K (dm (rd e x)) (dm (rd e y)) (tyT P T) (tyT P T2)) := rfl
@[go_sem ↓] theorem opK_copy (dst : Option Tmp) (args : Array Operand) (T : Array TypeId) : opK P n dr ⟨dst, .call ⟨.builtin .copy, args, T⟩, ty, pos, after, gu⟩ e g K = (g = true ∧ dr = false ∧ SemK P n ⟨dst, .call ⟨.builtin .copy, args, T⟩, ty, pos, after, gu⟩ e K) := rfl
@[go_sem ↓] theorem opK_cap (dst : Option Tmp) (args : Array Operand) (T : Array TypeId) : opK P n dr ⟨dst, .call ⟨.builtin .cap, args, T⟩, ty, pos, after, gu⟩ e g K = (g = true ∧ dr = false ∧ SemK P n ⟨dst, .call ⟨.builtin .cap, args, T⟩, ty, pos, after, gu⟩ e K) := rfl
@[go_sem ↓] theorem opK_slice4 (dst : Option Tmp) (t : TypeId) (x l m : Operand) (h : Option Operand) : opK P n dr ⟨dst, .slice t x (some l) h (some m), ty, pos, after, gu⟩ e g K = (g = true ∧ dr = false ∧ SemK P n ⟨dst, .slice t x (some l) h (some m), ty, pos, after, gu⟩ e K) := rfl
@[go_sem ↓] theorem opK_clear (dst : Option Tmp) (args : Array Operand) (T : Array TypeId) : opK P n dr ⟨dst, .call ⟨.builtin .clear, args, T⟩, ty, pos, after, gu⟩ e g K = (g = true ∧ dr = false ∧ SemK P n ⟨dst, .call ⟨.builtin .clear, args, T⟩, ty, pos, after, gu⟩ e K) := rfl
/-! calls -/
/-- what a function value has caught -/
def capsOf : D → List D
  | .fn _ caps => caps
  | _ => []
@[go_sem] theorem capsOf_fn (f : FuncId) (caps : List D) : capsOf (.fn f caps) = caps := rfl
def CallN (P : Program) (dr : Bool) (e : Env) (d : Nat) (f : Operand) (args : List Operand) (K : Env → Prop) (S : Prop) (fv : D) (as : List D) : Prop := fv = rd e f ∧ as = args.map (rd e) ++ capsOf (rd e f) → CallT P dr e d f args K ∨ (dr = false ∧ S)
theorem CallN.mk {f : Operand} {args : List Operand} {S : Prop} : (CallT P dr e d f args K ∨ (dr = false ∧ S)) = CallN P dr e d f args K S (rd e f) (args.map (rd e) ++ capsOf (rd e f)) := by simp [CallN]
@[congr] theorem CallN_congr {f : Operand} {args : List Operand} {S : Prop} {fv fv' : D} {as as' : List D} (h1 : True → fv = fv') (h2 : True → as = as') : CallN P dr e d f args K S fv as = CallN P dr e d f args K S fv' as' := by rw [h1 trivial, h2 trivial]
theorem CallN.sem {f : Operand} {args : List Operand} {S : Prop} {fv : D} {as : List D} (hd : dr = false) (h : S) : CallN P dr e d f args K S fv as := fun _ => .inr ⟨hd, h⟩
@[go_sem ↓] theorem opK_call (f : Operand) (args : Array Operand) (T : Array TypeId) : opK P n dr ⟨some d, .call ⟨.value f, args, T⟩, ty, pos, after, gu⟩ e g K =
    (d < n ∧ GK g (CallN P dr e d f args.toList K (SemK P n ⟨some d, .call ⟨.value f, args, T⟩, ty, pos, after, gu⟩ e K) (dm (rd e f)) (args.toList.map (rd e) ++ capsOf (rd e f))) (K (updT e d (.tup [])))) := by
  show (d < n ∧ GK g (CallT P dr e d f args.toList K ∨ (dr = false ∧ SemK P n ⟨some d, .call ⟨.value f, args, T⟩, ty, pos, after, gu⟩ e K)) (K (updT e d (.tup [])))) = _
  rw [CallN.mk]
  rfl
/-- plain data, that names no object -/
def plainB : D → Bool
  | .box _ => false
  | .own _ _ => false
  | d => d.names.isEmpty
end
end Go.Abs
