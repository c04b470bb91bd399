/- The predicate on data, worked out by simp: data, calls, weakening, results; printed by gen_eval2.py; no theorem of a claim. -/
import Derived.Test.YtdklpddmplflgaaDoorAbcEval
set_option linter.unusedSimpArgs false
set_option linter.unusedVariables false
namespace Go.Abs
attribute [go_sem] Bool.not_true Bool.not_false Bool.true_and Bool.and_true Bool.false_and Bool.and_false Bool.true_or Bool.or_true Bool.false_or Bool.or_false Bool.not_not true_and and_true if_true if_false ite_true ite_false not_true_eq_false not_false_eq_true
attribute [go_sem] List.map_cons List.map_nil List.length_cons List.length_nil List.append_nil List.nil_append List.cons_append List.take_succ_cons List.take_zero List.drop_succ_cons List.drop_zero List.headD_cons List.take_nil List.drop_nil Nat.add_zero Nat.zero_add List.replicate_succ List.replicate_zero List.flatten_cons List.flatten_nil List.set_cons_zero List.set_cons_succ List.getElem?_cons_zero List.getElem?_cons_succ List.getElem?_nil Option.map_some Option.map_none Option.getD_some Option.getD_none
attribute [go_sem] List.contains_nil List.contains_cons Bool.or_self beq_self_eq_true
attribute [go_sem] decide_true decide_false Int.natCast_nonneg Int.toNat_natCast forall_eq implies_true true_implies false_implies reduceCtorEq and_self


/-! ### slots and objects -/
@[go_sem ↓] theorem rd_tmp (e : Env) (t : Nat) : rd e (.tmp t) = e.t t := Eq.trans rfl rfl
@[go_sem ↓] theorem rd_const (e : Env) (v : Value) : rd e (.const v) = constD v := Eq.trans rfl rfl
@[go_sem ↓] theorem rd_func (e : Env) (f : FuncId) : rd e (.func f) = .fn f [] := Eq.trans rfl rfl
@[go_sem ↓] theorem updT_t (e : Env) (i : Nat) (d : D) (j : Nat) : (updT e i d).t j = if j = i then d else e.t j := Eq.trans rfl rfl
@[go_sem ↓] theorem updT_o (e : Env) (i : Nat) (d : D) (j : Nat) : (updT e i d).o j = e.o j := Eq.trans rfl rfl
@[go_sem ↓] theorem updO_o (e : Env) (i : Nat) (d : D) (j : Nat) : (updO e i d).o j = if j = i then d else e.o j := Eq.trans rfl rfl
@[go_sem ↓] theorem updO_t (e : Env) (i : Nat) (d : D) (j : Nat) : (updO e i d).t j = e.t j := Eq.trans rfl rfl
@[go_sem ↓] theorem killE_t (e : Env) (r j : Nat) : (killE r e).t j = (e.t j).kill r := Eq.trans rfl rfl
@[go_sem ↓] theorem killE_o (e : Env) (r j : Nat) : (killE r e).o j = if j = r then .undef else (e.o j).kill r := Eq.trans rfl rfl
def lk (ts : List (Nat × D)) (j : Nat) : D := look ts j
@[go_sem ↓] theorem mkE_t (ts os : EL) (j : Nat) : (mkE ts os).t j = look ts j := Eq.trans rfl rfl
@[go_sem ↓] theorem mkE_o (ts os : EL) (j : Nat) : (mkE ts os).o j = look os j := Eq.trans rfl rfl
@[go_sem ↓] theorem look_nil (j : Nat) : look [] j = .undef := Eq.trans rfl rfl
@[go_sem ↓] theorem look_cons (i : Nat) (d : D) (r : EL) (j : Nat) : look ((i, d) :: r) j = if j = i then d else look r j := Eq.trans rfl rfl
@[go_sem ↓] theorem tsL_nil (k : Nat) : tsL k [] = [] := rfl
@[go_sem] theorem tsL_cons (k : Nat) (d : D) (ds : List D) : tsL k (d :: ds) = (k, d) :: tsL (k + 1) ds := rfl
@[go_sem ↓] theorem osL_nil (k : Nat) : osL k [] = [] := rfl
@[congr] theorem osLc (k : Nat) {l l' : List D} (h : True → l = l') : osL k l = osL k l' := by rw [h trivial]
def osI (b : Bool) (k : Nat) (d : D) (ds : List D) : EL := if b then osL (k + 1) ds else (k, d) :: osL (k + 1) ds
@[go_sem] theorem osL_cons (k : Nat) (d : D) (ds : List D) : osL k (d :: ds) = osI (isUndef d) k d ds := rfl
@[go_sem] theorem osI_t (k : Nat) (d : D) (ds : List D) : osI true k d ds = osL (k + 1) ds := rfl
@[go_sem] theorem osI_f (k : Nat) (d : D) (ds : List D) : osI false k d ds = (k, d) :: osL (k + 1) ds := rfl

/-! ### constants -/
@[go_sem] theorem constD_bool (b : Bool) : constD (.bool b) = .bool b := rfl
@[go_sem] theorem constD_int (k : IntKind) (n : Int) : constD (.int k n) = .int k n := rfl
@[go_sem] theorem constD_str (s : ByteArray) : constD (.string s) = .str s := rfl
@[go_sem] theorem constD_nil : constD (.slice none 0 0) = .nil := rfl
@[go_sem] theorem constD_nilfn : constD .nilFunc = .nilfn := rfl
@[go_sem] theorem constD_nilif : constD .nilIface = .nilif := rfl
@[go_sem] theorem constD_nilp : constD (.pointer none) = .nilp := rfl
@[go_sem] theorem constD_agg (l : List Value) : constD (.agg l.toArray) = .agg (l.map constC) := rfl
@[go_sem] theorem constC_bool (b : Bool) : constC (.bool b) = .bool b := rfl
@[go_sem] theorem constC_int (k : IntKind) (n : Int) : constC (.int k n) = .int k n := rfl
@[go_sem] theorem constC_str (s : ByteArray) : constC (.string s) = .str s := rfl
@[go_sem] theorem constC_nil : constC (.slice none 0 0) = .nil := rfl
@[go_sem] theorem constC_nilfn : constC .nilFunc = .nilfn := rfl
@[go_sem] theorem constC_nilif : constC .nilIface = .nilif := rfl
@[go_sem] theorem constC_nilp : constC (.pointer none) = .nilp := rfl
/-! ### names -/
@[go_sem] theorem names_undef : D.names (.undef) = [] := by rw [D.names.eq_def]
@[go_sem] theorem names_bool (b : Bool) : D.names (.bool b) = [] := by rw [D.names.eq_def]
@[go_sem] theorem names_int (k : IntKind) (m : Int) : D.names (.int k m) = [] := by rw [D.names.eq_def]
@[go_sem] theorem names_str (s : ByteArray) : D.names (.str s) = [] := by rw [D.names.eq_def]
@[go_sem] theorem names_nil : D.names (.nil) = [] := by rw [D.names.eq_def]
@[go_sem] theorem names_emp : D.names (.emp) = [] := by rw [D.names.eq_def]
@[go_sem] theorem names_nilfn : D.names (.nilfn) = [] := by rw [D.names.eq_def]
@[go_sem] theorem names_nilif : D.names (.nilif) = [] := by rw [D.names.eq_def]
@[go_sem] theorem names_someif : D.names (.someif) = [] := by rw [D.names.eq_def]
@[go_sem] theorem names_nilp : D.names (.nilp) = [] := by rw [D.names.eq_def]
@[go_sem] theorem names_sl (z : Nat) (rows : List (List D)) : D.names (.sl z rows) = [] := by rw [D.names.eq_def]
@[go_sem] theorem names_eaddr (cs : List D) : D.names (.eaddr cs) = [] := by rw [D.names.eq_def]
@[go_sem] theorem names_own (z : Nat) (rows : List (List D)) : D.names (.own z rows) = [] := by rw [D.names.eq_def]
@[go_sem] theorem names_ref (r : Nat) : D.names (.ref r) = [r] := by rw [D.names]
@[go_sem] theorem names_addr (r o : Nat) : D.names (.addr r o) = [r] := by rw [D.names]
@[go_sem] theorem names_oaddr (r z i k : Nat) : D.names (.oaddr r z i k) = [r] := by rw [D.names]
@[go_sem] theorem names_osub (r z lo l : Nat) : D.names (.osub r z lo l) = [r] := by rw [D.names]
@[go_sem] theorem names_bsub (r o z l c : Nat) : D.names (.bsub r o z l c) = [r] := by rw [D.names]
@[go_sem] theorem names_fn (f : FuncId) (cs : List D) : D.names (.fn f cs) = D.namesL cs := by rw [D.names]
@[go_sem] theorem names_agg (cs : List D) : D.names (.agg cs) = D.namesL cs := by rw [D.names]
@[go_sem] theorem names_tup (cs : List D) : D.names (.tup cs) = D.namesL cs := by rw [D.names]
@[go_sem] theorem names_box (cs : List D) : D.names (.box cs) = D.namesL cs := by rw [D.names]
@[go_sem] theorem namesL_nil : D.namesL [] = [] := by rw [D.namesL]
@[go_sem] theorem namesL_cons (d : D) (l : List D) : D.namesL (d :: l) = d.names ++ D.namesL l := by rw [D.namesL]
/-! ### forgotten -/
@[go_sem] theorem kill_undef (q : Nat)  : D.kill q (.undef) = .undef := by rw [D.kill.eq_def]
@[go_sem] theorem kill_bool (q : Nat) (b : Bool) : D.kill q (.bool b) = .bool b := by rw [D.kill.eq_def]
@[go_sem] theorem kill_int (q : Nat) (k : IntKind) (m : Int) : D.kill q (.int k m) = .int k m := by rw [D.kill.eq_def]
@[go_sem] theorem kill_str (q : Nat) (s : ByteArray) : D.kill q (.str s) = .str s := by rw [D.kill.eq_def]
@[go_sem] theorem kill_nil (q : Nat)  : D.kill q (.nil) = .nil := by rw [D.kill.eq_def]
@[go_sem] theorem kill_emp (q : Nat)  : D.kill q (.emp) = .emp := by rw [D.kill.eq_def]
@[go_sem] theorem kill_nilfn (q : Nat)  : D.kill q (.nilfn) = .nilfn := by rw [D.kill.eq_def]
@[go_sem] theorem kill_nilif (q : Nat)  : D.kill q (.nilif) = .nilif := by rw [D.kill.eq_def]
@[go_sem] theorem kill_someif (q : Nat)  : D.kill q (.someif) = .someif := by rw [D.kill.eq_def]
@[go_sem] theorem kill_nilp (q : Nat)  : D.kill q (.nilp) = .nilp := by rw [D.kill.eq_def]
@[go_sem] theorem kill_sl (q : Nat) (z : Nat) (rows : List (List D)) : D.kill q (.sl z rows) = .sl z rows := by rw [D.kill.eq_def]
@[go_sem] theorem kill_eaddr (q : Nat) (cs : List D) : D.kill q (.eaddr cs) = .eaddr cs := by rw [D.kill.eq_def]
@[go_sem] theorem kill_own (q : Nat) (z : Nat) (rows : List (List D)) : D.kill q (.own z rows) = .own z rows := by rw [D.kill.eq_def]
@[go_sem] theorem kill_ref (q : Nat) (r : Nat) : D.kill q (.ref r) = if r = q then .undef else .ref r := by rw [D.kill]
@[go_sem] theorem kill_addr (q : Nat) (r o : Nat) : D.kill q (.addr r o) = if r = q then .undef else .addr r o := by rw [D.kill]
@[go_sem] theorem kill_oaddr (q : Nat) (r z i k : Nat) : D.kill q (.oaddr r z i k) = if r = q then .undef else .oaddr r z i k := by rw [D.kill]
@[go_sem] theorem kill_osub (q : Nat) (r z lo l : Nat) : D.kill q (.osub r z lo l) = if r = q then .undef else .osub r z lo l := by rw [D.kill]
@[go_sem] theorem kill_bsub (q : Nat) (r o z l c : Nat) : D.kill q (.bsub r o z l c) = if r = q then .undef else .bsub r o z l c := by rw [D.kill]
@[go_sem] theorem kill_fn (q : Nat) (f : FuncId) (cs : List D) : D.kill q (.fn f cs) = .fn f  (D.killL q cs) := by rw [D.kill]
@[go_sem] theorem kill_agg (q : Nat) (cs : List D) : D.kill q (.agg cs) = .agg  (D.killL q cs) := by rw [D.kill]
@[go_sem] theorem kill_tup (q : Nat) (cs : List D) : D.kill q (.tup cs) = .tup  (D.killL q cs) := by rw [D.kill]
@[go_sem] theorem kill_box (q : Nat) (cs : List D) : D.kill q (.box cs) = .box  (D.killL q cs) := by rw [D.kill]
@[go_sem] theorem killL_nil (q : Nat) : D.killL q [] = [] := by rw [D.killL]
@[go_sem] theorem killL_cons (q : Nat) (d : D) (l : List D) : D.killL q (d :: l) = d.kill q :: D.killL q l := by rw [D.killL]
/-! ### let go for good -/
/-- an object that is let go: o tells it -/
def fz (e : Env) (q : Nat) (d : D) : D := frzD (e.o q) q d
def fzL (e : Env) (q : Nat) (l : List D) : List D := frzDL (e.o q) q l
@[congr] theorem fz_congr {e : Env} {q : Nat} {d d' : D} (h : True → d = d') : fz e q d = fz e q d' := by rw [h trivial]
@[congr] theorem fzL_congr {e : Env} {q : Nat} {d d' : List D} (h : True → d = d') : fzL e q d = fzL e q d' := by rw [h trivial]
def fzI (b : Bool) (x d : D) : D := if b then x else d
@[congr] theorem fzI_congr {b b' : Bool} {x d : D} (h : True → b = b') : fzI b x d = fzI b' x d := by rw [h trivial]
@[go_sem ↓] theorem fzI_true (x d : D) : fzI true x d = x := rfl
@[go_sem ↓] theorem fzI_false (x d : D) : fzI false x d = d := rfl
@[go_sem] theorem fz_undef (e : Env) (q : Nat)  : fz e q (.undef) = .undef := by rw [fz, frzD.eq_def]
@[go_sem] theorem fz_bool (e : Env) (q : Nat) (b : Bool) : fz e q (.bool b) = .bool b := by rw [fz, frzD.eq_def]
@[go_sem] theorem fz_int (e : Env) (q : Nat) (k : IntKind) (m : Int) : fz e q (.int k m) = .int k m := by rw [fz, frzD.eq_def]
@[go_sem] theorem fz_str (e : Env) (q : Nat) (s : ByteArray) : fz e q (.str s) = .str s := by rw [fz, frzD.eq_def]
@[go_sem] theorem fz_nil (e : Env) (q : Nat)  : fz e q (.nil) = .nil := by rw [fz, frzD.eq_def]
@[go_sem] theorem fz_emp (e : Env) (q : Nat)  : fz e q (.emp) = .emp := by rw [fz, frzD.eq_def]
@[go_sem] theorem fz_nilfn (e : Env) (q : Nat)  : fz e q (.nilfn) = .nilfn := by rw [fz, frzD.eq_def]
@[go_sem] theorem fz_nilif (e : Env) (q : Nat)  : fz e q (.nilif) = .nilif := by rw [fz, frzD.eq_def]
@[go_sem] theorem fz_someif (e : Env) (q : Nat)  : fz e q (.someif) = .someif := by rw [fz, frzD.eq_def]
@[go_sem] theorem fz_nilp (e : Env) (q : Nat)  : fz e q (.nilp) = .nilp := by rw [fz, frzD.eq_def]
@[go_sem] theorem fz_sl (e : Env) (q : Nat) (z : Nat) (rows : List (List D)) : fz e q (.sl z rows) = .sl z rows := by rw [fz, frzD.eq_def]
@[go_sem] theorem fz_eaddr (e : Env) (q : Nat) (cs : List D) : fz e q (.eaddr cs) = .eaddr cs := by rw [fz, frzD.eq_def]
@[go_sem] theorem fz_own (e : Env) (q : Nat) (z : Nat) (rows : List (List D)) : fz e q (.own z rows) = .own z rows := by rw [fz, frzD.eq_def]
@[go_sem] theorem fz_ref (e : Env) (q : Nat) (r : Nat) : fz e q (.ref r) = fzI (bm (r == q)) (borSl (e.o q)) (.ref r) := by rw [fz, frzD]; rfl
@[go_sem] theorem fz_addr (e : Env) (q : Nat) (r o : Nat) : fz e q (.addr r o) = fzI (bm (r == q)) (borBox plain0 o (e.o q)) (.addr r o) := by rw [fz, frzD]; rfl
@[go_sem] theorem fz_oaddr (e : Env) (q : Nat) (r z i k : Nat) : fz e q (.oaddr r z i k) = fzI (bm (r == q)) (borEa z i k (e.o q)) (.oaddr r z i k) := by rw [fz, frzD]; rfl
@[go_sem] theorem fz_osub (e : Env) (q : Nat) (r z lo l : Nat) : fz e q (.osub r z lo l) = fzI (bm (r == q)) (borSub z lo l (e.o q)) (.osub r z lo l) := by rw [fz, frzD]; rfl
@[go_sem] theorem fz_bsub (e : Env) (q : Nat) (r o z l c : Nat) : fz e q (.bsub r o z l c) = fzI (bm (r == q)) (borBs o z l (e.o q)) (.bsub r o z l c) := by rw [fz, frzD]; rfl
@[go_sem] theorem fz_fn (e : Env) (q : Nat) (f : FuncId) (cs : List D) : fz e q (.fn f cs) = .fn f  (fzL e q cs) := by rw [fz, frzD]; rfl
@[go_sem] theorem fz_agg (e : Env) (q : Nat) (cs : List D) : fz e q (.agg cs) = .agg  (fzL e q cs) := by rw [fz, frzD]; rfl
@[go_sem] theorem fz_tup (e : Env) (q : Nat) (cs : List D) : fz e q (.tup cs) = .tup  (fzL e q cs) := by rw [fz, frzD]; rfl
@[go_sem] theorem fz_box (e : Env) (q : Nat) (cs : List D) : fz e q (.box cs) = .box  (fzL e q cs) := by rw [fz, frzD]; rfl
@[go_sem] theorem fzL_nil (e : Env) (q : Nat) : fzL e q [] = [] := by rw [fzL, frzDL]
@[go_sem] theorem fzL_cons (e : Env) (q : Nat) (d : D) (l : List D) : fzL e q (d :: l) = fz e q d :: fzL e q l := by rw [fzL, frzDL]; rfl
/-! ### named anew -/
@[go_sem] theorem ren_undef (q : Nat → Option Nat)  : D.ren q (.undef) = .undef := by rw [D.ren.eq_def]
@[go_sem] theorem ren_bool (q : Nat → Option Nat) (b : Bool) : D.ren q (.bool b) = .bool b := by rw [D.ren.eq_def]
@[go_sem] theorem ren_int (q : Nat → Option Nat) (k : IntKind) (m : Int) : D.ren q (.int k m) = .int k m := by rw [D.ren.eq_def]
@[go_sem] theorem ren_str (q : Nat → Option Nat) (s : ByteArray) : D.ren q (.str s) = .str s := by rw [D.ren.eq_def]
@[go_sem] theorem ren_nil (q : Nat → Option Nat)  : D.ren q (.nil) = .nil := by rw [D.ren.eq_def]
@[go_sem] theorem ren_emp (q : Nat → Option Nat)  : D.ren q (.emp) = .emp := by rw [D.ren.eq_def]
@[go_sem] theorem ren_nilfn (q : Nat → Option Nat)  : D.ren q (.nilfn) = .nilfn := by rw [D.ren.eq_def]
@[go_sem] theorem ren_nilif (q : Nat → Option Nat)  : D.ren q (.nilif) = .nilif := by rw [D.ren.eq_def]
@[go_sem] theorem ren_someif (q : Nat → Option Nat)  : D.ren q (.someif) = .someif := by rw [D.ren.eq_def]
@[go_sem] theorem ren_nilp (q : Nat → Option Nat)  : D.ren q (.nilp) = .nilp := by rw [D.ren.eq_def]
@[go_sem] theorem ren_sl (q : Nat → Option Nat) (z : Nat) (rows : List (List D)) : D.ren q (.sl z rows) = .sl z rows := by rw [D.ren.eq_def]
@[go_sem] theorem ren_eaddr (q : Nat → Option Nat) (cs : List D) : D.ren q (.eaddr cs) = .eaddr cs := by rw [D.ren.eq_def]
@[go_sem] theorem ren_own (q : Nat → Option Nat) (z : Nat) (rows : List (List D)) : D.ren q (.own z rows) = .own z rows := by rw [D.ren.eq_def]
@[go_sem] theorem ren_ref (q : Nat → Option Nat) (r : Nat) : D.ren q (.ref r) = give (q r) (.ref) .undef := by rw [D.ren]; cases q r <;> rfl
@[go_sem] theorem ren_addr (q : Nat → Option Nat) (r o : Nat) : D.ren q (.addr r o) = give (q r) (fun x => .addr x o) .undef := by rw [D.ren]; cases q r <;> rfl
@[go_sem] theorem ren_oaddr (q : Nat → Option Nat) (r z i k : Nat) : D.ren q (.oaddr r z i k) = give (q r) (fun x => .oaddr x z i k) .undef := by rw [D.ren]; cases q r <;> rfl
@[go_sem] theorem ren_osub (q : Nat → Option Nat) (r z lo l : Nat) : D.ren q (.osub r z lo l) = give (q r) (fun x => .osub x z lo l) .undef := by rw [D.ren]; cases q r <;> rfl
@[go_sem] theorem ren_bsub (q : Nat → Option Nat) (r o z l c : Nat) : D.ren q (.bsub r o z l c) = give (q r) (fun x => .bsub x o z l c) .undef := by rw [D.ren]; cases q r <;> rfl
@[go_sem] theorem ren_fn (q : Nat → Option Nat) (f : FuncId) (cs : List D) : D.ren q (.fn f cs) = .fn f  (D.renL q cs) := by rw [D.ren]
@[go_sem] theorem ren_agg (q : Nat → Option Nat) (cs : List D) : D.ren q (.agg cs) = .agg  (D.renL q cs) := by rw [D.ren]
@[go_sem] theorem ren_tup (q : Nat → Option Nat) (cs : List D) : D.ren q (.tup cs) = .tup  (D.renL q cs) := by rw [D.ren]
@[go_sem] theorem ren_box (q : Nat → Option Nat) (cs : List D) : D.ren q (.box cs) = .box  (D.renL q cs) := by rw [D.ren]
@[go_sem] theorem renL_nil (q : Nat → Option Nat) : D.renL q [] = [] := by rw [D.renL]
@[go_sem] theorem renL_cons (q : Nat → Option Nat) (d : D) (l : List D) : D.renL q (d :: l) = d.ren q :: D.renL q l := by rw [D.renL]
@[go_sem ↓] theorem give_some (i : Nat) (f : Nat → D) (d : D) : give (some i) f d = f i := rfl
@[go_sem ↓] theorem give_none (f : Nat → D) (d : D) : give none f d = d := rfl
@[congr] theorem give_congr {i i' : Option Nat} {f : Nat → D} {d : D} (h : True → i = i') : give i f d = give i' f d := by rw [h trivial]
/-! ### lent -/
@[congr] theorem hideIf_congr {b b' : Bool} {d : D} (h : True → b = b') : hideIf b d = hideIf b' d := by rw [h trivial]
@[go_sem ↓] theorem hideIf_true (d : D) : hideIf true d = .undef := rfl
@[go_sem ↓] theorem hideIf_false (d : D) : hideIf false d = d := rfl
@[go_sem] theorem bo_undef (e : Env) (x : List Nat) (j : Nat)  : bo e x (j + 1) (.undef) = .undef := rfl
@[go_sem] theorem bo_bool (e : Env) (x : List Nat) (j : Nat) (b : Bool) : bo e x (j + 1) (.bool b) = .bool b := rfl
@[go_sem] theorem bo_int (e : Env) (x : List Nat) (j : Nat) (k : IntKind) (m : Int) : bo e x (j + 1) (.int k m) = .int k m := rfl
@[go_sem] theorem bo_str (e : Env) (x : List Nat) (j : Nat) (s : ByteArray) : bo e x (j + 1) (.str s) = .str s := rfl
@[go_sem] theorem bo_nil (e : Env) (x : List Nat) (j : Nat)  : bo e x (j + 1) (.nil) = .nil := rfl
@[go_sem] theorem bo_emp (e : Env) (x : List Nat) (j : Nat)  : bo e x (j + 1) (.emp) = .emp := rfl
@[go_sem] theorem bo_nilfn (e : Env) (x : List Nat) (j : Nat)  : bo e x (j + 1) (.nilfn) = .nilfn := rfl
@[go_sem] theorem bo_nilif (e : Env) (x : List Nat) (j : Nat)  : bo e x (j + 1) (.nilif) = .nilif := rfl
@[go_sem] theorem bo_someif (e : Env) (x : List Nat) (j : Nat)  : bo e x (j + 1) (.someif) = .someif := rfl
@[go_sem] theorem bo_nilp (e : Env) (x : List Nat) (j : Nat)  : bo e x (j + 1) (.nilp) = .nilp := rfl
@[go_sem] theorem bo_sl (e : Env) (x : List Nat) (j : Nat) (z : Nat) (rows : List (List D)) : bo e x (j + 1) (.sl z rows) = .sl z rows := rfl
@[go_sem] theorem bo_eaddr (e : Env) (x : List Nat) (j : Nat) (cs : List D) : bo e x (j + 1) (.eaddr cs) = .eaddr cs := rfl
@[go_sem] theorem bo_own (e : Env) (x : List Nat) (j : Nat) (z : Nat) (rows : List (List D)) : bo e x (j + 1) (.own z rows) = .own z rows := rfl
@[go_sem] theorem bo_ref (e : Env) (x : List Nat) (j : Nat) (r : Nat) : bo e x (j + 1) (.ref r) = hideIf (bm (x.contains r)) (borSl (e.o r)) := rfl
@[go_sem] theorem bo_addr (e : Env) (x : List Nat) (j : Nat) (r o : Nat) : bo e x (j + 1) (.addr r o) = hideIf (bm (x.contains r)) (borBox (bo e x j) o (e.o r)) := rfl
@[go_sem] theorem bo_oaddr (e : Env) (x : List Nat) (j : Nat) (r z i k : Nat) : bo e x (j + 1) (.oaddr r z i k) = hideIf (bm (x.contains r)) (borEa z i k (e.o r)) := rfl
@[go_sem] theorem bo_osub (e : Env) (x : List Nat) (j : Nat) (r z lo l : Nat) : bo e x (j + 1) (.osub r z lo l) = hideIf (bm (x.contains r)) (borSub z lo l (e.o r)) := rfl
@[go_sem] theorem bo_bsub (e : Env) (x : List Nat) (j : Nat) (r o z l c : Nat) : bo e x (j + 1) (.bsub r o z l c) = hideIf (bm (x.contains r)) (borBs o z l (e.o r)) := rfl
@[go_sem] theorem bo_fn (e : Env) (x : List Nat) (j : Nat) (f : FuncId) (cs : List D) : bo e x (j + 1) (.fn f cs) = .fn f  (cs.map (bo e x j)) := rfl
@[go_sem] theorem bo_agg (e : Env) (x : List Nat) (j : Nat) (cs : List D) : bo e x (j + 1) (.agg cs) = .agg  (cs.map (bo e x j)) := rfl
@[go_sem] theorem bo_tup (e : Env) (x : List Nat) (j : Nat) (cs : List D) : bo e x (j + 1) (.tup cs) = .tup  (cs.map (bo e x j)) := rfl
@[go_sem] theorem bo_box (e : Env) (x : List Nat) (j : Nat) (cs : List D) : bo e x (j + 1) (.box cs) = .undef := rfl
@[go_sem] theorem bo_zero (e : Env) (x : List Nat) (d : D) : bo e x 0 d = plain0 d := rfl
/-- an argument as the function is given it -/
def cv (e : Env) (bw : Bool) (gs : List Nat) (k : Nat) (d : D) : D := conv bw gs e.o k d
@[congr] theorem cv_congr {e : Env} {bw : Bool} {gs : List Nat} {k : Nat} {d d' : D} (h : True → d = d') : cv e bw gs k d = cv e bw gs k d' := by rw [h trivial]
@[go_sem] theorem cv_undef (e : Env) (bw : Bool) (x : List Nat) (j : Nat)  : cv e bw x (j + 1) (.undef) = .undef := rfl
@[go_sem] theorem cv_bool (e : Env) (bw : Bool) (x : List Nat) (j : Nat) (b : Bool) : cv e bw x (j + 1) (.bool b) = .bool b := rfl
@[go_sem] theorem cv_int (e : Env) (bw : Bool) (x : List Nat) (j : Nat) (k : IntKind) (m : Int) : cv e bw x (j + 1) (.int k m) = .int k m := rfl
@[go_sem] theorem cv_str (e : Env) (bw : Bool) (x : List Nat) (j : Nat) (s : ByteArray) : cv e bw x (j + 1) (.str s) = .str s := rfl
@[go_sem] theorem cv_nil (e : Env) (bw : Bool) (x : List Nat) (j : Nat)  : cv e bw x (j + 1) (.nil) = .nil := rfl
@[go_sem] theorem cv_emp (e : Env) (bw : Bool) (x : List Nat) (j : Nat)  : cv e bw x (j + 1) (.emp) = .emp := rfl
@[go_sem] theorem cv_nilfn (e : Env) (bw : Bool) (x : List Nat) (j : Nat)  : cv e bw x (j + 1) (.nilfn) = .nilfn := rfl
@[go_sem] theorem cv_nilif (e : Env) (bw : Bool) (x : List Nat) (j : Nat)  : cv e bw x (j + 1) (.nilif) = .nilif := rfl
@[go_sem] theorem cv_someif (e : Env) (bw : Bool) (x : List Nat) (j : Nat)  : cv e bw x (j + 1) (.someif) = .someif := rfl
@[go_sem] theorem cv_nilp (e : Env) (bw : Bool) (x : List Nat) (j : Nat)  : cv e bw x (j + 1) (.nilp) = .nilp := rfl
@[go_sem] theorem cv_sl (e : Env) (bw : Bool) (x : List Nat) (j : Nat) (z : Nat) (rows : List (List D)) : cv e bw x (j + 1) (.sl z rows) = .sl z rows := rfl
@[go_sem] theorem cv_eaddr (e : Env) (bw : Bool) (x : List Nat) (j : Nat) (cs : List D) : cv e bw x (j + 1) (.eaddr cs) = .eaddr cs := rfl
@[go_sem] theorem cv_own (e : Env) (bw : Bool) (x : List Nat) (j : Nat) (z : Nat) (rows : List (List D)) : cv e bw x (j + 1) (.own z rows) = .own z rows := rfl
@[go_sem] theorem cv_ref (e : Env) (bw : Bool) (x : List Nat) (j : Nat) (r : Nat) : cv e bw x (j + 1) (.ref r) = give (idx x r) (.ref) (hideIf (bm (!bw)) (bo e x j (dm (.ref r)))) := rfl
@[go_sem] theorem cv_addr (e : Env) (bw : Bool) (x : List Nat) (j : Nat) (r o : Nat) : cv e bw x (j + 1) (.addr r o) = give (idx x r) (fun x => .addr x o) (hideIf (bm (!bw)) (bo e x j (dm (.addr r o)))) := rfl
@[go_sem] theorem cv_oaddr (e : Env) (bw : Bool) (x : List Nat) (j : Nat) (r z i k : Nat) : cv e bw x (j + 1) (.oaddr r z i k) = give (idx x r) (fun x => .oaddr x z i k) (hideIf (bm (!bw)) (bo e x j (dm (.oaddr r z i k)))) := rfl
@[go_sem] theorem cv_osub (e : Env) (bw : Bool) (x : List Nat) (j : Nat) (r z lo l : Nat) : cv e bw x (j + 1) (.osub r z lo l) = give (idx x r) (fun x => .osub x z lo l) (hideIf (bm (!bw)) (bo e x j (dm (.osub r z lo l)))) := rfl
@[go_sem] theorem cv_bsub (e : Env) (bw : Bool) (x : List Nat) (j : Nat) (r o z l c : Nat) : cv e bw x (j + 1) (.bsub r o z l c) = give (idx x r) (fun x => .bsub x o z l c) (hideIf (bm (!bw)) (bo e x j (dm (.bsub r o z l c)))) := rfl
@[go_sem] theorem cv_fn (e : Env) (bw : Bool) (x : List Nat) (j : Nat) (f : FuncId) (cs : List D) : cv e bw x (j + 1) (.fn f cs) = .fn f  (cs.map (cv e bw x j)) := rfl
@[go_sem] theorem cv_agg (e : Env) (bw : Bool) (x : List Nat) (j : Nat) (cs : List D) : cv e bw x (j + 1) (.agg cs) = .agg  (cs.map (cv e bw x j)) := rfl
@[go_sem] theorem cv_tup (e : Env) (bw : Bool) (x : List Nat) (j : Nat) (cs : List D) : cv e bw x (j + 1) (.tup cs) = .tup  (cs.map (cv e bw x j)) := rfl
@[go_sem] theorem cv_box (e : Env) (bw : Bool) (x : List Nat) (j : Nat) (cs : List D) : cv e bw x (j + 1) (.box cs) = .undef := rfl
@[go_sem] theorem cv_zero (e : Env) (bw : Bool) (x : List Nat) (d : D) : cv e bw x 0 d = plain0 d := rfl
def cvO (e : Env) (bw : Bool) (gs : List Nat) (k : Nat) (d : D) : D := convO bw gs e.o k d
@[congr] theorem cvO_congr {e : Env} {bw : Bool} {gs : List Nat} {k : Nat} {d d' : D} (h : True → d = d') : cvO e bw gs k d = cvO e bw gs k d' := by rw [h trivial]
@[go_sem] theorem cvO_box (e : Env) (bw : Bool) (x : List Nat) (j : Nat) (cs : List D) : cvO e bw x j (.box cs) = .box (cs.map (cv e bw x j)) := rfl
@[go_sem] theorem cvO_own (e : Env) (bw : Bool) (x : List Nat) (j z : Nat) (rows : List (List D)) : cvO e bw x j (.own z rows) = .own z rows := rfl
/-! ### plain data -/
mutual
/-- data that names no object -/
def Pl : D → Prop
  | .fn _ cs => PlL cs
  | .agg cs => PlL cs
  | .tup cs => PlL cs
  | .box _ | .own _ _ | .ref _ | .addr _ _ | .oaddr _ _ _ _ | .osub _ _ _ _ | .bsub _ _ _ _ _ => False
  | _ => True
def PlL : List D → Prop
  | [] => True
  | d :: l => Pl d ∧ PlL l
end
@[go_sem] theorem Pl_undef : Pl (.undef) = True := by rw [Pl.eq_def]
@[go_sem] theorem Pl_bool (b : Bool) : Pl (.bool b) = True := by rw [Pl.eq_def]
@[go_sem] theorem Pl_int (k : IntKind) (m : Int) : Pl (.int k m) = True := by rw [Pl.eq_def]
@[go_sem] theorem Pl_str (s : ByteArray) : Pl (.str s) = True := by rw [Pl.eq_def]
@[go_sem] theorem Pl_nil : Pl (.nil) = True := by rw [Pl.eq_def]
@[go_sem] theorem Pl_emp : Pl (.emp) = True := by rw [Pl.eq_def]
@[go_sem] theorem Pl_nilfn : Pl (.nilfn) = True := by rw [Pl.eq_def]
@[go_sem] theorem Pl_nilif : Pl (.nilif) = True := by rw [Pl.eq_def]
@[go_sem] theorem Pl_someif : Pl (.someif) = True := by rw [Pl.eq_def]
@[go_sem] theorem Pl_nilp : Pl (.nilp) = True := by rw [Pl.eq_def]
@[go_sem] theorem Pl_sl (z : Nat) (rows : List (List D)) : Pl (.sl z rows) = True := by rw [Pl.eq_def]
@[go_sem] theorem Pl_eaddr (cs : List D) : Pl (.eaddr cs) = True := by rw [Pl.eq_def]
@[go_sem] theorem Pl_fn (f : FuncId) (cs : List D) : Pl (.fn f cs) = PlL cs := by rw [Pl]
@[go_sem] theorem Pl_agg (cs : List D) : Pl (.agg cs) = PlL cs := by rw [Pl]
@[go_sem] theorem Pl_tup (cs : List D) : Pl (.tup cs) = PlL cs := by rw [Pl]
@[go_sem] theorem PlL_nil : PlL [] = True := by rw [PlL]
@[go_sem] theorem PlL_cons (d : D) (l : List D) : PlL (d :: l) = (Pl d ∧ PlL l) := by rw [PlL]
theorem PlL_mem : ∀ {l : List D}, PlL l → ∀ d ∈ l, Pl d
  | [], _, d, h => by cases h
  | x :: l, h, d, hd => by
    rw [PlL] at h
    rcases List.mem_cons.1 hd with rfl | hd
    · exact h.1
    · exact PlL_mem h.2 d hd
mutual
theorem Pl.names : ∀ (d : D), Pl d → d.names = []
  | .fn _ cs, h => by rw [Pl] at h; rw [D.names]; exact PlL.names cs h
  | .agg cs, h => by rw [Pl] at h; rw [D.names]; exact PlL.names cs h
  | .tup cs, h => by rw [Pl] at h; rw [D.names]; exact PlL.names cs h
  | .box _, h | .own _ _, h | .ref _, h | .addr _ _, h | .oaddr _ _ _ _, h | .osub _ _ _ _, h | .bsub _ _ _ _ _, h => by rw [Pl] at h; exact h.elim
  | .undef, _ | .bool _, _ | .int _ _, _ | .str _, _ | .nil, _ | .emp, _ | .nilfn, _ | .nilif, _ | .someif, _ | .nilp, _ | .sl _ _, _ | .eaddr _, _ => by rw [D.names.eq_def]
theorem PlL.names : ∀ (l : List D), PlL l → D.namesL l = []
  | [], _ => by rw [D.namesL]
  | d :: l, h => by rw [PlL] at h; rw [D.namesL, Pl.names d h.1, PlL.names l h.2]; rfl
end
mutual
theorem Pl.ren (f : Nat → Option Nat) : ∀ (d : D), Pl d → d.ren f = d
  | .fn _ cs, h => by rw [Pl] at h; rw [D.ren, PlL.ren f cs h]
  | .agg cs, h => by rw [Pl] at h; rw [D.ren, PlL.ren f cs h]
  | .tup cs, h => by rw [Pl] at h; rw [D.ren, PlL.ren f cs h]
  | .box _, h | .own _ _, h | .ref _, h | .addr _ _, h | .oaddr _ _ _ _, h | .osub _ _ _ _, h | .bsub _ _ _ _ _, h => by rw [Pl] at h; exact h.elim
  | .undef, _ | .bool _, _ | .int _ _, _ | .str _, _ | .nil, _ | .emp, _ | .nilfn, _ | .nilif, _ | .someif, _ | .nilp, _ | .sl _ _, _ | .eaddr _, _ => by rw [D.ren.eq_def]
theorem PlL.ren (f : Nat → Option Nat) : ∀ (l : List D), PlL l → D.renL f l = l
  | [], _ => by rw [D.renL]
  | d :: l, h => by rw [PlL] at h; rw [D.renL, Pl.ren f d h.1, PlL.ren f l h.2]
end
theorem Pl.conv (bw : Bool) (gs : List Nat) (o : Nat → D) : ∀ (k : Nat) (d : D), Pl d → conv bw gs o k d = d
  | 0, d, h => by simp [Go.Abs.conv, plain0, Pl.names d h]
  | k + 1, d, h => by
    have mp : ∀ cs : List D, PlL cs → cs.map (Go.Abs.conv bw gs o k) = cs := by
      intro cs hc
      conv => rhs; rw [← List.map_id cs]
      exact List.map_congr_left fun d hd => Pl.conv bw gs o k d (PlL_mem hc d hd)
    cases d <;> try rfl
    all_goals rw [Pl] at h
    all_goals first | exact h.elim | skip
    all_goals simp only [Go.Abs.conv]; rw [mp _ h]

/-! ### calls -/
section
variable {P : Program} {e : Env} {dr : Bool} {K : Env → Prop} {d : Nat} {f : Operand} {args : List Operand}
theorem CallN.pure {S : Prop} {k : FuncId} {caps ds : List D} {dv : D} (h : Spec P k [] ds [] dv) (hk : PlL ds ∧ Pl dv ∧ K (updT e d dv)) : CallN P dr e d f args K S (.fn k caps) ds := by
  rintro ⟨hf, has⟩
  refine .inl ?_
  have has : ds = args.map (rd e) ++ caps := by rw [has, ← hf]; rfl
  obtain ⟨h1, h2, h3⟩ := hk
  refine ⟨[], [], false, [], dv, fun _ => ⟨rfl, rfl⟩, ?_⟩
  show CallA P e d args [] false [] dv (KW dr K) (rd e f)
  rw [← hf]
  refine ⟨List.nodup_nil, by simp, by simp [newsN], ⟨Nat.le_refl _, by simp⟩, by simp, ?_, ?_⟩
  · rw [← has]
    have : ds.map (conv false [] e.o 4) = ds := by
      conv => rhs; rw [← List.map_id ds]
      exact List.map_congr_left fun d hd => Pl.conv false [] e.o 4 d (PlL_mem h1 d hd)
    rw [this]
    exact h
  · have : postE e d [] [] dv = updT e d dv := by
      unfold postE
      rw [Pl.ren _ dv h2]
      rfl
    rw [this]
    exact .inl h3
/-- a call, the objects that it is given and lent chosen -/
def CallG (P : Program) (e : Env) (d : Nat) (f : Operand) (args : List Operand) (K : Env → Prop) (gs : List Nat) (bw : Bool) (fv : D) (ds hs : List D) : Prop :=
  fv = cv e bw gs 5 (rd e f) → ds = args.map (fun x => cv e bw gs 4 (rd e x)) ++ capsOf (cv e bw gs 5 (rd e f)) → hs = gs.map (fun r => cvO e bw gs 4 (e.o r)) → ∃ hs' dv, CallA P e d args gs bw hs' dv K (rd e f)
@[congr] theorem CallG_congr {gs : List Nat} {bw : Bool} {fv fv' : D} {ds ds' hs hs' : List D} (h1 : True → fv = fv') (h2 : True → ds = ds') (h3 : True → hs = hs') : CallG P e d f args K gs bw fv ds hs = CallG P e d f args K gs bw fv' ds' hs' := by rw [h1 trivial, h2 trivial, h3 trivial]
theorem CallN.gen (fz gs : List Nat) (bw : Bool) {S : Prop} {fv : D} {as : List D} (hdr : dr = true → fz = [] ∧ gs = []) (h : CallG P (frzEL fz e) d f args K gs bw (cv (frzEL fz e) bw gs 5 (rd (frzEL fz e) f)) (args.map (fun x => cv (frzEL fz e) bw gs 4 (rd (frzEL fz e) x)) ++ capsOf (cv (frzEL fz e) bw gs 5 (rd (frzEL fz e) f))) (gs.map (fun r => cvO (frzEL fz e) bw gs 4 ((frzEL fz e).o r)))) :
    CallN P dr e d f args K S fv as := by
  intro _
  obtain ⟨hs', dv, h⟩ := h rfl rfl rfl
  exact .inl ⟨fz, gs, bw, hs', dv, hdr, CallA_mono (fun _ => .inl) h⟩
/-- a call behind which the slots and objects are told anew -/
theorem CallN.genW (ts os : EL) (fz gs : List Nat) (bw : Bool) {S : Prop} {fv : D} {as : List D} (hdr : dr = false) (h : CallG P (frzEL fz e) d f args (fun e' => LeL e' ts os ∧ K (mkE ts os)) gs bw (cv (frzEL fz e) bw gs 5 (rd (frzEL fz e) f)) (args.map (fun x => cv (frzEL fz e) bw gs 4 (rd (frzEL fz e) x)) ++ capsOf (cv (frzEL fz e) bw gs 5 (rd (frzEL fz e) f))) (gs.map (fun r => cvO (frzEL fz e) bw gs 4 ((frzEL fz e).o r)))) :
    CallN P dr e d f args K S fv as := by
  intro _
  obtain ⟨hs', dv, h⟩ := h rfl rfl rfl
  exact .inl ⟨fz, gs, bw, hs', dv, (fun hd => by rw [hdr] at hd; cases hd), CallA_mono (fun _ hk => .inr ⟨hdr, ts, os, hk⟩) h⟩
def CallX (P : Program) (e : Env) (d : Nat) (f : Operand) (args : List Operand) (K : Env → Prop) (gs : List Nat) (bw : Bool) (fv : D) (ds hs : List D) : Prop :=
  fv = cv e bw gs 5 (rd e f) → ds = args.map (fun x => cv e bw gs 4 (rd e x)) ++ capsOf (cv e bw gs 5 (rd e f)) → hs = gs.map (fun r => cvO e bw gs 4 (e.o r)) → ∃ Φ, CallAE P e d args gs bw Φ K (rd e f)
@[congr] theorem CallX_congr {gs : List Nat} {bw : Bool} {fv fv' : D} {ds ds' hs hs' : List D} (h1 : True → fv = fv') (h2 : True → ds = ds') (h3 : True → hs = hs') : CallX P e d f args K gs bw fv ds hs = CallX P e d f args K gs bw fv' ds' hs' := by rw [h1 trivial, h2 trivial, h3 trivial]
/-- a call whose result is told by a property -/
theorem CallN.genX {n : Nat} (fz gs : List Nat) (bw : Bool) {args : Array Operand} {T : Array TypeId} {ty : TypeId} {pos : String} {after : Array Edge} {gu : Option (Nat × Bool)} {fv : D} {as : List D} (hdr : dr = false) (hd : d < n) (h : CallX P (frzEL fz e) d f args.toList K gs bw (cv (frzEL fz e) bw gs 5 (rd (frzEL fz e) f)) (args.toList.map (fun x => cv (frzEL fz e) bw gs 4 (rd (frzEL fz e) x)) ++ capsOf (cv (frzEL fz e) bw gs 5 (rd (frzEL fz e) f))) (gs.map (fun r => cvO (frzEL fz e) bw gs 4 ((frzEL fz e).o r)))) :
    CallN P dr e d f args.toList K (SemK P n ⟨some d, .call ⟨.value f, args, T⟩, ty, pos, after, gu⟩ e K) fv as := by
  intro _
  obtain ⟨Φ, h⟩ := h rfl rfl rfl
  exact .inr ⟨hdr, SemK.callE rfl hd rfl rfl h⟩
def notInN (r : Nat) : List Nat → Prop
  | [] => True
  | x :: l => r ≠ x ∧ notInN r l
def nodupN : List Nat → Prop
  | [] => True
  | x :: l => notInN x l ∧ nodupN l
@[go_sem] theorem notInN_nil (r : Nat) : notInN r [] = True := rfl
@[go_sem] theorem notInN_cons (r x : Nat) (l : List Nat) : notInN r (x :: l) = (r ≠ x ∧ notInN r l) := rfl
@[go_sem] theorem nodupN_nil : nodupN [] = True := rfl
@[go_sem] theorem nodupN_cons (x : Nat) (l : List Nat) : nodupN (x :: l) = (notInN x l ∧ nodupN l) := rfl
theorem notInN_iff {r : Nat} : ∀ {l : List Nat}, notInN r l → r ∉ l
  | [], _, h => by cases h
  | x :: l, ⟨h1, h2⟩, h => by
    rcases List.mem_cons.1 h with rfl | h
    · exact h1 rfl
    · exact notInN_iff h2 h
theorem nodupN_iff : ∀ {l : List Nat}, nodupN l → l.Nodup
  | [], _ => List.nodup_nil
  | x :: l, ⟨h1, h2⟩ => List.nodup_cons.2 ⟨notInN_iff h1, nodupN_iff h2⟩
def IsDef (d : D) : Prop := isUndef d = false
def AllD (e : Env) : List Nat → Prop
  | [] => True
  | r :: rs => IsDef (e.o r) ∧ AllD e rs
def AllU (e : Env) : List Nat → Prop
  | [] => True
  | r :: rs => IsU (e.o r) ∧ AllU e rs
@[go_sem ↓] theorem AllD_nil : AllD e [] = True := rfl
@[go_sem ↓] theorem AllD_cons (r : Nat) (rs : List Nat) : AllD e (r :: rs) = (IsDef (e.o r) ∧ AllD e rs) := rfl
@[go_sem ↓] theorem AllU_nil : AllU e [] = True := rfl
@[go_sem ↓] theorem AllU_cons (r : Nat) (rs : List Nat) : AllU e (r :: rs) = (IsU (e.o r) ∧ AllU e rs) := rfl
@[congr] theorem AllU_congr {l l' : List Nat} (h : True → l = l') : AllU e l = AllU e l' := by rw [h trivial]
@[go_sem] theorem IsD_eq (d : D) : IsDef d = (isUndef d = false) := rfl
theorem AllD_iff : ∀ {rs : List Nat}, AllD e rs → ∀ r ∈ rs, e.o r ≠ .undef
  | [], _, r, h => by cases h
  | x :: rs, ⟨h1, h2⟩, r, h => by
    rcases List.mem_cons.1 h with rfl | h
    · intro h0; unfold IsDef at h1; rw [h0] at h1; exact Bool.noConfusion h1
    · exact AllD_iff h2 r h
theorem AllU_iff : ∀ {rs : List Nat}, AllU e rs → ∀ r ∈ rs, e.o r = .undef
  | [], _, r, h => by cases h
  | x :: rs, ⟨h1, h2⟩, r, h => by
    rcases List.mem_cons.1 h with rfl | h
    · exact h1
    · exact AllU_iff h2 r h
def putL : List (Nat × D) → Env → Env
  | [], e => e
  | x :: l, e => putL l (updO e x.1 x.2)
def zipN (f : Nat → Option Nat) : List Nat → List D → List (Nat × D)
  | r :: rs, h :: hs => (r, h.ren f) :: zipN f rs hs
  | _, _ => []
theorem putO_putL (f : Nat → Option Nat) : ∀ (ns : List Nat) (hs : List D) (e : Env), putO f ns hs e = putL (zipN f ns hs) e
  | [], _, _ => rfl
  | _ :: _, [], _ => rfl
  | r :: rs, h :: hs, e => putO_putL f rs hs (updO e r (h.ren f))
/-- the environment behind the call, piece by piece -/
def PsE (e : Env) (d : Nat) (K : Env → Prop) (dl : List Nat) (obs : List (Nat × D)) (dv : D) : Prop := K (updT (putL obs (killEL dl e)) d dv)
@[congr] theorem PsE_congr {dl dl' : List Nat} {obs obs' : List (Nat × D)} {dv dv' : D} (h1 : True → dl = dl') (h2 : True → obs = obs') (h3 : True → dv = dv') : PsE e d K dl obs dv = PsE e d K dl' obs' dv' := by rw [h1 trivial, h2 trivial, h3 trivial]
@[go_sem] theorem PsE_kill (r : Nat) (dl : List Nat) (obs : List (Nat × D)) (dv : D) : PsE e d K (r :: dl) obs dv = PsE (killE r e) d K dl obs dv := rfl
@[go_sem] theorem PsE_put (x : Nat × D) (obs : List (Nat × D)) (dv : D) : PsE e d K [] (x :: obs) dv = PsE (updO e x.1 x.2) d K [] obs dv := rfl
@[go_sem] theorem PsE_nil (dv : D) : PsE e d K [] [] dv = K (updT e d dv) := rfl
/-- the names of the given objects and of the new ones -/
def PsN (e : Env) (d : Nat) (K : Env → Prop) (gs : List Nat) (hs' : List D) (dv : D) (ns : List Nat) : Prop := PsE e d K (deads gs hs') (zipN (at? ns) ns hs') (dv.ren (at? ns))
@[congr] theorem PsN_congr {gs : List Nat} {hs' : List D} {dv : D} {ns ns' : List Nat} (h1 : True → ns = ns') : PsN e d K gs hs' dv ns = PsN e d K gs hs' dv ns' := by rw [h1 trivial]
@[go_sem] theorem PsN_eq (gs : List Nat) (hs' : List D) (dv : D) (ns : List Nat) : PsN e d K gs hs' dv ns = PsE e d K (lm (deads gs hs')) (zipN (at? ns) ns hs') (dv.ren (at? ns)) := rfl
theorem CallG.intro {gs : List Nat} {bw : Bool} {k : FuncId} {caps ds hs hs' : List D} {dv : D} (h : Spec P k hs ds hs' dv)
    (hk : nodupN gs ∧ AllD e gs ∧ AllU e (lm (newsN d 0 (hs'.length - gs.length))) ∧ gs.length ≤ hs'.length ∧ hs'.length ≤ gs.length + 16 ∧ (bw = true → noPermS dv ∧ ∀ h ∈ hs', noPermO h) ∧ PsN e d K gs hs' dv (lm (callNs d gs hs'))) :
    CallG P e d f args K gs bw (.fn k caps) ds hs := by
  intro h1 h2 h3
  obtain ⟨k1, k2, k3, k4, k5, k6, k7⟩ := hk
  refine ⟨hs', dv, ?_⟩
  rw [← h1] at h2
  cases hfv : rd e f
  case fn k0 caps0 =>
    rw [hfv] at h1
    simp only [cv, conv, D.fn.injEq] at h1
    obtain ⟨rfl, rfl⟩ := h1
    refine ⟨nodupN_iff k1, AllD_iff k2, AllU_iff k3, ⟨k4, k5⟩, k6, ?_, ?_⟩
    · subst h2; subst h3
      rw [List.map_append, List.map_map]
      exact h
    · unfold PsN PsE at k7
      unfold postE
      rw [putO_putL]
      exact k7
  all_goals rw [hfv] at h1; simp only [cv, conv] at h1
  all_goals exfalso
  all_goals first
    | cases h1
    | (rename_i r; cases hi : idx gs r <;> rw [hi] at h1 <;> cases bw <;> simp only [give, hideIf, bor, Bool.not_false, Bool.not_true, if_true, Bool.false_eq_true, if_false] at h1 <;> first | cases h1 | (split at h1 <;> first | cases h1 | (unfold borSl at h1; split at h1 <;> cases h1)))
    | (rename_i r _; cases hi : idx gs r <;> rw [hi] at h1 <;> cases bw <;> simp only [give, hideIf, bor, Bool.not_false, Bool.not_true, if_true, Bool.false_eq_true, if_false] at h1 <;> first | cases h1 | (split at h1 <;> first | cases h1 | (unfold borBox at h1; split at h1 <;> cases h1)))
    | (rename_i r _ _ _; cases hi : idx gs r <;> rw [hi] at h1 <;> cases bw <;> simp only [give, hideIf, bor, Bool.not_false, Bool.not_true, if_true, Bool.false_eq_true, if_false] at h1 <;> first | cases h1 | (split at h1 <;> first | cases h1 | (unfold borEa at h1; split at h1 <;> (try split at h1) <;> cases h1) | (unfold borSub at h1; split at h1 <;> (try split at h1) <;> cases h1) | (unfold borBs at h1; split at h1 <;> (try split at h1) <;> cases h1)))
    | (rename_i r _ _ _ _; cases hi : idx gs r <;> rw [hi] at h1 <;> cases bw <;> simp only [give, hideIf, bor, Bool.not_false, Bool.not_true, if_true, Bool.false_eq_true, if_false] at h1 <;> first | cases h1 | (split at h1 <;> first | cases h1 | (unfold borEa at h1; split at h1 <;> (try split at h1) <;> cases h1) | (unfold borSub at h1; split at h1 <;> (try split at h1) <;> cases h1) | (unfold borBs at h1; split at h1 <;> (try split at h1) <;> cases h1)))
theorem CallX.intro {gs : List Nat} {bw : Bool} {k : FuncId} {caps ds hs : List D} {Φ : List D → D → Prop} (h : SpecE P k hs ds Φ)
    (k1 : nodupN gs) (k2 : AllD e gs) (hk : ∀ hs' dv, Φ hs' dv → AllU e (lm (newsN d 0 (hs'.length - gs.length))) ∧ gs.length ≤ hs'.length ∧ hs'.length ≤ gs.length + 16 ∧ (bw = true → noPermS dv ∧ ∀ h ∈ hs', noPermO h) ∧ PsN e d K gs hs' dv (lm (callNs d gs hs'))) :
    CallX P e d f args K gs bw (.fn k caps) ds hs := by
  intro h1 h2 h3
  refine ⟨Φ, ?_⟩
  rw [← h1] at h2
  cases hfv : rd e f
  case fn k0 caps0 =>
    rw [hfv] at h1
    simp only [cv, conv, D.fn.injEq] at h1
    obtain ⟨rfl, rfl⟩ := h1
    refine ⟨nodupN_iff k1, AllD_iff k2, ?_, fun hs' dv hΦ => ?_⟩
    · subst h2; subst h3
      rw [List.map_append, List.map_map]
      exact h
    · obtain ⟨k3, k4, k5, k6, k7⟩ := hk hs' dv hΦ
      refine ⟨AllU_iff k3, ⟨k4, k5⟩, k6, ?_⟩
      unfold PsN PsE at k7
      unfold postE
      rw [putO_putL]
      exact k7
  all_goals rw [hfv] at h1; simp only [cv, conv] at h1
  all_goals exfalso
  all_goals first
    | cases h1
    | (rename_i r; cases hi : idx gs r <;> rw [hi] at h1 <;> cases bw <;> simp only [give, hideIf, bor, Bool.not_false, Bool.not_true, if_true, Bool.false_eq_true, if_false] at h1 <;> first | cases h1 | (split at h1 <;> first | cases h1 | (unfold borSl at h1; split at h1 <;> cases h1)))
    | (rename_i r _; cases hi : idx gs r <;> rw [hi] at h1 <;> cases bw <;> simp only [give, hideIf, bor, Bool.not_false, Bool.not_true, if_true, Bool.false_eq_true, if_false] at h1 <;> first | cases h1 | (split at h1 <;> first | cases h1 | (unfold borBox at h1; split at h1 <;> cases h1)))
    | (rename_i r _ _ _; cases hi : idx gs r <;> rw [hi] at h1 <;> cases bw <;> simp only [give, hideIf, bor, Bool.not_false, Bool.not_true, if_true, Bool.false_eq_true, if_false] at h1 <;> first | cases h1 | (split at h1 <;> first | cases h1 | (unfold borEa at h1; split at h1 <;> (try split at h1) <;> cases h1) | (unfold borSub at h1; split at h1 <;> (try split at h1) <;> cases h1) | (unfold borBs at h1; split at h1 <;> (try split at h1) <;> cases h1)))
    | (rename_i r _ _ _ _; cases hi : idx gs r <;> rw [hi] at h1 <;> cases bw <;> simp only [give, hideIf, bor, Bool.not_false, Bool.not_true, if_true, Bool.false_eq_true, if_false] at h1 <;> first | cases h1 | (split at h1 <;> first | cases h1 | (unfold borEa at h1; split at h1 <;> (try split at h1) <;> cases h1) | (unfold borSub at h1; split at h1 <;> (try split at h1) <;> cases h1) | (unfold borBs at h1; split at h1 <;> (try split at h1) <;> cases h1)))
end
@[go_sem] theorem zipN_nil (f : Nat → Option Nat) (hs : List D) : zipN f [] hs = [] := rfl
@[go_sem] theorem zipN_cons (f : Nat → Option Nat) (r : Nat) (rs : List Nat) (h : D) (hs : List D) : zipN f (r :: rs) (h :: hs) = (r, h.ren f) :: zipN f rs hs := rfl
@[go_sem] theorem at?_eq (ns : List Nat) (i : Nat) : at? ns i = ns[i]? := rfl
@[go_sem] theorem deads_nil (hs : List D) : deads [] hs = [] := rfl
@[go_sem] theorem deads_cons (g : Nat) (gs : List Nat) (h : D) (hs : List D) : deads (g :: gs) (h :: hs) = if isUndef h then g :: deads gs hs else deads gs hs := rfl
@[go_sem] theorem callNs_eq (d : Nat) (gs : List Nat) (hs' : List D) : callNs d gs hs' = gs ++ newsN d 0 (hs'.length - gs.length) := rfl
@[go_sem] theorem newsN_zero (d k : Nat) : newsN d k 0 = [] := rfl
@[go_sem] theorem newsN_succ (d k m : Nat) : newsN d k (m + 1) = nm d k :: newsN d (k + 1) m := rfl
@[go_sem] theorem idx_nil (r : Nat) : idx [] r = none := rfl
@[go_sem] theorem idx_cons (g : Nat) (gs : List Nat) (r : Nat) : idx (g :: gs) r = if g = r then some 0 else (idx gs r).map (· + 1) := rfl
@[go_sem ↓] theorem frzEL_nil (e : Env) : frzEL [] e = e := rfl
@[go_sem ↓] theorem frzEL_cons (r : Nat) (rs : List Nat) (e : Env) : frzEL (r :: rs) e = frzEL rs (frzE r e) := rfl
@[go_sem ↓] theorem frzE_t (e : Env) (r j : Nat) : (frzE r e).t j = fz e r (e.t j) := Eq.trans rfl rfl
@[go_sem ↓] theorem frzE_o (e : Env) (r j : Nat) : (frzE r e).o j = if j = r then .undef else fz e r (e.o j) := Eq.trans rfl rfl
attribute [go_sem] or_false false_or
@[go_sem] theorem borSl_own (z : Nat) (rows : List (List D)) : borSl (.own z rows) = .sl z rows := rfl
@[go_sem] theorem borBox_box (f : D → D) (o : Nat) (cs : List D) : borBox f o (.box cs) = .eaddr ((cs.drop o).map f) := rfl
@[go_sem] theorem borEa_own (z i k z' : Nat) (rows : List (List D)) : borEa z i k (.own z' rows) = if z' = z ∧ i < rows.length then .eaddr ((rows.getD i []).drop k) else .undef := rfl
@[go_sem] theorem borSub_own (z lo len z' : Nat) (rows : List (List D)) : borSub z lo len (.own z' rows) = if z' = z ∧ lo + len ≤ rows.length then .sl z ((rows.drop lo).take len) else .undef := rfl
@[go_sem] theorem borBs_box (o z len : Nat) (cs : List D) : borBs o z len (.box cs) = if ((cs.drop o).take (len * z)).all permB && decide (o + len * z ≤ cs.length) then .sl z (rowsOf z len (cs.drop o)) else .undef := rfl
attribute [go_sem] noPermS noPermV noPermA noPermO rowsD
@[go_sem] theorem rowsD_sl (z z' : Nat) (rows : List (List D)) : rowsD z (.sl z' rows) = if z' = z then some rows else none := rfl
@[go_sem] theorem rowsD_nil (z : Nat) : rowsD z .nil = some [] := rfl
@[go_sem] theorem rowsD_emp (z : Nat) : rowsD z .emp = some [] := rfl
attribute [go_sem] plain0 List.isEmpty_nil List.isEmpty_cons
/-! ### undefined or not -/
@[go_sem] theorem isUndef_undef : isUndef (.undef) = true := rfl
@[go_sem] theorem isUndef_bool (b : Bool) : isUndef (.bool b) = false := rfl
@[go_sem] theorem isUndef_int (k : IntKind) (m : Int) : isUndef (.int k m) = false := rfl
@[go_sem] theorem isUndef_str (s : ByteArray) : isUndef (.str s) = false := rfl
@[go_sem] theorem isUndef_nil : isUndef (.nil) = false := rfl
@[go_sem] theorem isUndef_emp : isUndef (.emp) = false := rfl
@[go_sem] theorem isUndef_nilfn : isUndef (.nilfn) = false := rfl
@[go_sem] theorem isUndef_nilif : isUndef (.nilif) = false := rfl
@[go_sem] theorem isUndef_someif : isUndef (.someif) = false := rfl
@[go_sem] theorem isUndef_nilp : isUndef (.nilp) = false := rfl
@[go_sem] theorem isUndef_sl (z : Nat) (rows : List (List D)) : isUndef (.sl z rows) = false := rfl
@[go_sem] theorem isUndef_eaddr (cs : List D) : isUndef (.eaddr cs) = false := rfl
@[go_sem] theorem isUndef_own (z : Nat) (rows : List (List D)) : isUndef (.own z rows) = false := rfl
@[go_sem] theorem isUndef_ref (r : Nat) : isUndef (.ref r) = false := rfl
@[go_sem] theorem isUndef_addr (r o : Nat) : isUndef (.addr r o) = false := rfl
@[go_sem] theorem isUndef_oaddr (r z i k : Nat) : isUndef (.oaddr r z i k) = false := rfl
@[go_sem] theorem isUndef_osub (r z lo l : Nat) : isUndef (.osub r z lo l) = false := rfl
@[go_sem] theorem isUndef_bsub (r o z l c : Nat) : isUndef (.bsub r o z l c) = false := rfl
@[go_sem] theorem isUndef_fn (f : FuncId) (cs : List D) : isUndef (.fn f cs) = false := rfl
@[go_sem] theorem isUndef_agg (cs : List D) : isUndef (.agg cs) = false := rfl
@[go_sem] theorem isUndef_tup (cs : List D) : isUndef (.tup cs) = false := rfl
@[go_sem] theorem isUndef_box (cs : List D) : isUndef (.box cs) = false := rfl
/-! ### at least -/
@[congr] theorem leD_congr {rh : Nat → Option Nat} {lv : Nat → Bool} {d d' u u' : D} (h : True → d = d') (h2 : True → u = u') : leD rh lv d u = leD rh lv d' u' := by rw [h trivial, h2 trivial]
@[go_sem ↓] theorem leD_un (rh : Nat → Option Nat) (lv : Nat → Bool) (d : D) : leD rh lv (d) (.undef) = True := by cases d <;> simp [leD]
@[go_sem] theorem leD_bool (rh : Nat → Option Nat) (lv : Nat → Bool) (a b : Bool) : leD rh lv (.bool a) (.bool b) = (a = b) := by simp [leD]
@[go_sem] theorem leD_int (rh : Nat → Option Nat) (lv : Nat → Bool) (k k' : IntKind) (a b : Int) : leD rh lv (.int k a) (.int k' b) = (k = k' ∧ a = b) := by simp [leD]
@[go_sem] theorem leD_str (rh : Nat → Option Nat) (lv : Nat → Bool) (a b : ByteArray) : leD rh lv (.str a) (.str b) = (a = b) := by simp [leD]
@[go_sem] theorem leD_sl (rh : Nat → Option Nat) (lv : Nat → Bool) (z z' : Nat) (a b : List (List D)) : leD rh lv (.sl z a) (.sl z' b) = (z = z' ∧ a = b) := by simp [leD]
@[go_sem] theorem leD_eaddr (rh : Nat → Option Nat) (lv : Nat → Bool) (a b : List D) : leD rh lv (.eaddr a) (.eaddr b) = (a = b) := by simp [leD]
@[go_sem] theorem leD_nil (rh : Nat → Option Nat) (lv : Nat → Bool)  : leD rh lv (.nil) (.nil) = True := by simp [leD]
@[go_sem] theorem leD_emp (rh : Nat → Option Nat) (lv : Nat → Bool)  : leD rh lv (.emp) (.emp) = True := by simp [leD]
@[go_sem] theorem leD_nilfn (rh : Nat → Option Nat) (lv : Nat → Bool)  : leD rh lv (.nilfn) (.nilfn) = True := by simp [leD]
@[go_sem] theorem leD_nilif (rh : Nat → Option Nat) (lv : Nat → Bool)  : leD rh lv (.nilif) (.nilif) = True := by simp [leD]
@[go_sem] theorem leD_someif (rh : Nat → Option Nat) (lv : Nat → Bool)  : leD rh lv (.someif) (.someif) = True := by simp [leD]
@[go_sem] theorem leD_nilp (rh : Nat → Option Nat) (lv : Nat → Bool)  : leD rh lv (.nilp) (.nilp) = True := by simp [leD]
@[go_sem] theorem leD_nilsl (rh : Nat → Option Nat) (lv : Nat → Bool) (z : Nat) (a : List (List D)) : leD rh lv (.nil) (.sl z a) = (a = []) := by simp [leD]
@[go_sem] theorem leD_nilemp (rh : Nat → Option Nat) (lv : Nat → Bool)  : leD rh lv (.nil) (.emp) = True := by simp [leD]
@[go_sem] theorem leD_nilref (rh : Nat → Option Nat) (lv : Nat → Bool) (s : Nat) : leD rh lv (.nil) (.ref s) = (rh s = none ∧ lv s = true) := by simp [leD]
@[go_sem] theorem leD_ref (rh : Nat → Option Nat) (lv : Nat → Bool) (r s : Nat) : leD rh lv (.ref r) (.ref s) = (rh s = some r ∧ lv s = true) := by simp [leD]
@[go_sem] theorem leD_addr (rh : Nat → Option Nat) (lv : Nat → Bool) (r s a b : Nat) : leD rh lv (.addr r a) (.addr s b) = (rh s = some r ∧ lv s = true ∧ a = b) := by simp [leD]
@[go_sem] theorem leD_oaddr (rh : Nat → Option Nat) (lv : Nat → Bool) (r s a b a1 b1 a2 b2 : Nat) : leD rh lv (.oaddr r a a1 a2) (.oaddr s b b1 b2) = (rh s = some r ∧ lv s = true ∧ a = b ∧ a1 = b1 ∧ a2 = b2) := by simp [leD]
@[go_sem] theorem leD_osub (rh : Nat → Option Nat) (lv : Nat → Bool) (r s a b a1 b1 a2 b2 : Nat) : leD rh lv (.osub r a a1 a2) (.osub s b b1 b2) = (rh s = some r ∧ lv s = true ∧ a = b ∧ a1 = b1 ∧ a2 = b2) := by simp [leD]
@[go_sem] theorem leD_bsub (rh : Nat → Option Nat) (lv : Nat → Bool) (r s a b a1 b1 a2 b2 a3 b3 : Nat) : leD rh lv (.bsub r a a1 a2 a3) (.bsub s b b1 b2 b3) = (rh s = some r ∧ lv s = true ∧ a = b ∧ a1 = b1 ∧ a2 = b2 ∧ a3 = b3) := by simp [leD]
@[go_sem] theorem leD_agg (rh : Nat → Option Nat) (lv : Nat → Bool) (a b : List D) : leD rh lv (.agg a) (.agg b) = leDL rh lv a b := by simp [leD]
@[go_sem] theorem leD_tup (rh : Nat → Option Nat) (lv : Nat → Bool) (a b : List D) : leD rh lv (.tup a) (.tup b) = leDL rh lv a b := by simp [leD]
@[go_sem] theorem leD_fn (rh : Nat → Option Nat) (lv : Nat → Bool) (f f' : FuncId) (a b : List D) : leD rh lv (.fn f a) (.fn f' b) = (f = f' ∧ leDL rh lv a b) := by simp [leD]
@[go_sem] theorem leDL_nil (rh : Nat → Option Nat) (lv : Nat → Bool)  : leDL rh lv [] [] = True := by simp [leDL]
@[go_sem] theorem leDL_cons (rh : Nat → Option Nat) (lv : Nat → Bool) (a b : D) (x y : List D) : leDL rh lv (a :: x) (b :: y) = (leD rh lv a b ∧ leDL rh lv x y) := by simp [leDL]
@[congr] theorem leDL_congr {rh : Nat → Option Nat} {lv : Nat → Bool} {d d' u u' : List D} (h : True → d = d') (h2 : True → u = u') : leDL rh lv d u = leDL rh lv d' u' := by rw [h trivial, h2 trivial]
@[congr] theorem leO_congr {rh : Nat → Option Nat} {lv : Nat → Bool} {d d' u u' : D} (h : True → d = d') (h2 : True → u = u') : leO rh lv d u = leO rh lv d' u' := by rw [h trivial, h2 trivial]
@[go_sem] theorem leO_box (rh : Nat → Option Nat) (lv : Nat → Bool) (a b : List D) : leO rh lv (.box a) (.box b) = leDL rh lv a b := by simp [leO]
@[go_sem] theorem leO_own (rh : Nat → Option Nat) (lv : Nat → Bool) (z z' : Nat) (a b : List (List D)) : leO rh lv (.own z a) (.own z' b) = (z = z' ∧ a = b) := by simp [leO]
/-! ### which names are meant -/
@[go_sem ↓] theorem prs_undef  (x : D) : prs (.undef) x = [] := by cases x <;> simp [prs]
@[go_sem ↓] theorem prs_bool (b : Bool) (x : D) : prs (.bool b) x = [] := by cases x <;> simp [prs]
@[go_sem ↓] theorem prs_int (k : IntKind) (m : Int) (x : D) : prs (.int k m) x = [] := by cases x <;> simp [prs]
@[go_sem ↓] theorem prs_str (s : ByteArray) (x : D) : prs (.str s) x = [] := by cases x <;> simp [prs]
@[go_sem ↓] theorem prs_nil  (x : D) : prs (.nil) x = [] := by cases x <;> simp [prs]
@[go_sem ↓] theorem prs_emp  (x : D) : prs (.emp) x = [] := by cases x <;> simp [prs]
@[go_sem ↓] theorem prs_nilfn  (x : D) : prs (.nilfn) x = [] := by cases x <;> simp [prs]
@[go_sem ↓] theorem prs_nilif  (x : D) : prs (.nilif) x = [] := by cases x <;> simp [prs]
@[go_sem ↓] theorem prs_someif  (x : D) : prs (.someif) x = [] := by cases x <;> simp [prs]
@[go_sem ↓] theorem prs_nilp  (x : D) : prs (.nilp) x = [] := by cases x <;> simp [prs]
@[go_sem ↓] theorem prs_sl (z : Nat) (rows : List (List D)) (x : D) : prs (.sl z rows) x = [] := by cases x <;> simp [prs]
@[go_sem ↓] theorem prs_eaddr (cs : List D) (x : D) : prs (.eaddr cs) x = [] := by cases x <;> simp [prs]
@[go_sem ↓] theorem prs_own (z : Nat) (rows : List (List D)) (x : D) : prs (.own z rows) x = [] := by cases x <;> simp [prs]
@[go_sem] theorem prs_ref (s r : Nat) : prs (.ref s) (.ref r) = [(s, some r)] := by simp [prs]
@[go_sem] theorem prs_refnil (s : Nat) : prs (.ref s) .nil = [(s, none)] := by simp [prs]
@[go_sem] theorem prs_addr (s r a b : Nat) : prs (.addr s a) (.addr r b) = [(s, some r)] := by simp [prs]
@[go_sem] theorem prs_oaddr (s r a b a1 b1 a2 b2 : Nat) : prs (.oaddr s a a1 a2) (.oaddr r b b1 b2) = [(s, some r)] := by simp [prs]
@[go_sem] theorem prs_osub (s r a b a1 b1 a2 b2 : Nat) : prs (.osub s a a1 a2) (.osub r b b1 b2) = [(s, some r)] := by simp [prs]
@[go_sem] theorem prs_bsub (s r a b a1 b1 a2 b2 a3 b3 : Nat) : prs (.bsub s a a1 a2 a3) (.bsub r b b1 b2 b3) = [(s, some r)] := by simp [prs]
@[go_sem] theorem prs_agg (a b : List D) : prs (.agg a) (.agg b) = prsL a b := by simp [prs]
@[go_sem] theorem prs_tup (a b : List D) : prs (.tup a) (.tup b) = prsL a b := by simp [prs]
@[go_sem] theorem prs_box (a b : List D) : prs (.box a) (.box b) = prsL a b := by simp [prs]
@[go_sem] theorem prs_fn (f f' : FuncId) (a b : List D) : prs (.fn f a) (.fn f' b) = prsL a b := by simp [prs]
@[go_sem ↓] theorem prs_fn0 (f : FuncId) (x : D) : prs (.fn f []) x = [] := by cases x <;> simp [prs, prsL]
@[go_sem] theorem prsL_nil (x : List D) : prsL [] x = [] := by simp [prsL]
@[go_sem] theorem prsL_cons (a b : D) (x y : List D) : prsL (a :: x) (b :: y) = prs a b ++ prsL x y := by simp [prsL]
/-! ### weakening -/
section
variable {P : Program} {e : Env}
def prT (e : Env) (ts : EL) : List (Nat × Option Nat) := prsT e ts
@[go_sem ↓] theorem prsT_nil : prsT e [] = [] := rfl
@[go_sem ↓] theorem prsT_cons (i : Nat) (d : D) (r : EL) : prsT e ((i, d) :: r) = prs (dm d) (e.t i) ++ prsT e r := rfl
@[go_sem ↓] theorem prsO_nil (l : List (Nat × Option Nat)) : prsO e l [] = [] := rfl
@[go_sem ↓] theorem prsO_cons (l : List (Nat × Option Nat)) (i : Nat) (d : D) (r : EL) : prsO e l ((i, d) :: r) = prs (dm d) (oAt e (rho l i)) ++ prsO e l r := rfl
@[congr] theorem oAt_congr {o o' : Option Nat} (h : True → o = o') : oAt e o = oAt e o' := by rw [h trivial]
@[go_sem] theorem oAt_some (r : Nat) : oAt e (some r) = e.o r := rfl
@[go_sem] theorem oAt_none : oAt e none = .undef := rfl
@[go_sem] theorem rho_nil (s : Nat) : rho [] s = some s := rfl
@[go_sem] theorem rho_cons (i : Nat) (o : Option Nat) (r : List (Nat × Option Nat)) (s : Nat) : rho ((i, o) :: r) s = if s = i then o else rho r s := rfl
@[go_sem] theorem inL_nil (s : Nat) : inL [] s = false := rfl
@[go_sem] theorem inL_cons (i : Nat) (d : D) (r : EL) (s : Nat) : inL ((i, d) :: r) s = if s = i then true else inL r s := rfl
@[congr] theorem LeP_congr {m : Nat} {ts os : EL} {l l' : List (Nat × Option Nat)} (h : True → l = l') : LeP m e ts os l = LeP m e ts os l' := by rw [h trivial]
@[congr] theorem LeR_congr {m : Nat} {ts os : EL} {l l' : List (Nat × Option Nat)} (h : True → l = l') : LeR m e ts os l = LeR m e ts os l' := by rw [h trivial]
@[go_sem ↓] theorem LeL_eq (ts os : EL) : LeL e ts os = LeP 16 e ts os (lm (prsT e ts)) := rfl
@[go_sem ↓] theorem LeM_eq (m : Nat) (ts os : EL) : LeM m e ts os = LeP m e ts os (lm (prsT e ts)) := rfl
@[go_sem] theorem LeP_eq (m : Nat) (ts os : EL) (l : List (Nat × Option Nat)) : LeP m e ts os l = LeR m e ts os (lm (l ++ prsO e l os)) := rfl
@[go_sem] theorem LeR_eq (m : Nat) (ts os : EL) (l : List (Nat × Option Nat)) : LeR m e ts os l = (LeTs e (rho l) os ts ∧ LeOs m e (rho l) os os) := rfl
@[go_sem ↓] theorem LeTs_nil (rh : Nat → Option Nat) (os : EL) : LeTs e rh os [] = True := rfl
@[go_sem ↓] theorem LeTs_cons (rh : Nat → Option Nat) (os : EL) (i : Nat) (d : D) (r : EL) : LeTs e rh os ((i, d) :: r) = (leD rh (inL os) (dm (e.t i)) d ∧ LeTs e rh os r) := rfl
@[congr] theorem LeOb_congr {rh : Nat → Option Nat} {os : EL} {d : D} {o o' : Option Nat} (h : True → o = o') : LeOb e rh os d o = LeOb e rh os d o' := by rw [h trivial]
@[go_sem] theorem LeOb_some (rh : Nat → Option Nat) (os : EL) (d : D) (r : Nat) : LeOb e rh os d (some r) = leO rh (inL os) (dm (e.o r)) d := rfl
@[go_sem] theorem LeOb_none (rh : Nat → Option Nat) (os : EL) (d : D) : LeOb e rh os d none = isNilO d := rfl
@[go_sem] theorem isNilO_own (z : Nat) (rows : List (List D)) : isNilO (.own z rows) = (rows = []) := rfl
@[go_sem] theorem notTwice_nil (o : Option Nat) (rh : Nat → Option Nat) : notTwice o rh [] = True := rfl
@[go_sem] theorem notTwice_none (rh : Nat → Option Nat) (x : Nat × D) (r : EL) : notTwice none rh (x :: r) = notTwice none rh r := by simp [notTwice]
@[go_sem] theorem notTwice_some (a : Nat) (rh : Nat → Option Nat) (i : Nat) (d : D) (r : EL) : notTwice (some a) rh ((i, d) :: r) = (rh i ≠ some a ∧ notTwice (some a) rh r) := rfl
@[congr] theorem notTwice_congr {o o' : Option Nat} {rh : Nat → Option Nat} {os : EL} (h : True → o = o') : notTwice o rh os = notTwice o' rh os := by rw [h trivial]
@[go_sem] theorem entOk_some (m s r : Nat) : entOk m s (some r) = (m ≤ s ∨ r = s) := by simp [entOk]
@[go_sem] theorem entOk_none (m s : Nat) : entOk m s none = (m ≤ s) := by simp [entOk]
@[go_sem ↓] theorem LeOs_nil (m : Nat) (rh : Nat → Option Nat) (os : EL) : LeOs m e rh os [] = True := rfl
@[go_sem ↓] theorem LeOs_cons (m : Nat) (rh : Nat → Option Nat) (os : EL) (i : Nat) (d : D) (r : EL) : LeOs m e rh os ((i, d) :: r) = (inL r i = false ∧ LeOb e rh os d (rh i) ∧ notTwice (rh i) rh r ∧ entOk m i (rh i) ∧ LeOs m e rh os r) := rfl
attribute [go_sem] Nat.zero_le Option.some.injEq Bool.true_eq_false Bool.false_eq_true ne_eq not_false_eq_true

/-! ### results -/
def rtK (m : Nat) (hs' : List D) (d : D) (e : Env) (v : D) : Prop := LeM m (retEnv v e) (lm [(0, d)]) (osL 0 hs')
def NormO (m : Nat) (e : Env) (ts os : EL) : Prop := LeM m e ts os
@[go_sem ↓] theorem rtK_eq (m : Nat) (hs' : List D) (d v : D) : rtK m hs' d e v = NormO (nk m) (retEnv v e) [(0, d)] (lm (osL 0 hs')) := rfl
@[congr] theorem NormO_congr {m m' : Nat} {ts os os' : EL} (h1 : True → m = m') (h : True → os = os') : NormO m e ts os = NormO m' e ts os' := by rw [h1 trivial, h trivial]
@[go_sem] theorem NormO_eq (m : Nat) (ts os : EL) : NormO m e ts os = LeM m e ts os := rfl
@[go_sem ↓] theorem RetK_eq (rs : List ResultVar) (m : Nat) (hs' : List D) (d : D) : RetK P rs m hs' d e = (resOkL P e rs ∧ Norm (dm (resD P e rs)) (rtK m hs' d e)) := rfl
@[go_sem ↓] theorem retEnv_t (v : D) (j : Nat) : (retEnv v e).t j = if j = 0 then v else .undef := Eq.trans rfl rfl
@[go_sem ↓] theorem retEnv_o (v : D) (j : Nat) : (retEnv v e).o j = e.o j := Eq.trans rfl rfl
@[go_sem ↓] theorem resOkL_nil : resOkL P e [] = True := rfl
@[go_sem ↓] theorem resOkL_cons (r : ResultVar) (rs : List ResultVar) : resOkL P e (r :: rs) = (resOk P e r ∧ resOkL P e rs) := rfl
@[go_sem ↓] theorem resOk_tmp (t : Nat) : resOk P e (.tmp t) = True := rfl
@[go_sem ↓] theorem resOk_cell (a : Nat) (t : TypeId) : resOk P e (.cell a t) = ldTOk e (layT P t) (e.t a) := by simp only [resOk, ldTOk]; rfl
@[go_sem ↓] theorem resV_tmp (t : Nat) : resV P e (.tmp t) = e.t t := rfl
@[go_sem ↓] theorem resV_cell (a : Nat) (t : TypeId) : resV P e (.cell a t) = ldT e (layT P t) (e.t a) := by simp only [resV, ldT]; rfl
@[go_sem ↓] theorem resD_one (r : ResultVar) : resD P e [r] = resV P e r := rfl
@[go_sem ↓] theorem resD_two (a b : ResultVar) (l : List ResultVar) : resD P e (a :: b :: l) = .tup ((a :: b :: l).map (resV P e)) := rfl
@[go_sem ↓] theorem resD_zero : resD P e [] = .tup [] := rfl
end

/-! ### operators -/
@[go_sem] theorem binV_int (op : BinOp) (k k' : IntKind) (a b : Int) : binV op (.int k a) (.int k' b) = iop op k a b := rfl
@[go_sem] theorem binV_str (op : BinOp) (a b : ByteArray) : binV op (.str a) (.str b) = sop op a b := rfl
@[go_sem] theorem binV_bool (op : BinOp) (a b : Bool) : binV op (.bool a) (.bool b) = eqD op (a == b) := rfl
@[go_sem] theorem binV_agg (op : BinOp) (a b : List D) : binV op (.agg a) (.agg b) = eqD op (cellsEq a b) := rfl
@[go_sem] theorem binV_nn (op : BinOp) : binV op .nilif .nilif = eqD op true := rfl
@[go_sem] theorem binV_sn (op : BinOp) : binV op .someif .nilif = eqD op false := rfl
@[go_sem] theorem binV_ns (op : BinOp) : binV op .nilif .someif = eqD op false := rfl
@[go_sem] theorem binV_pp (op : BinOp) : binV op .nilp .nilp = eqD op true := rfl
@[go_sem] theorem binV_ap (op : BinOp) (r o : Nat) : binV op (.addr r o) .nilp = eqD op false := rfl
@[go_sem] theorem binV_ep (op : BinOp) (cs : List D) : binV op (.eaddr cs) .nilp = eqD op false := rfl
@[go_sem] theorem eqD_eql (b : Bool) : eqD .eql b = .bool b := rfl
@[go_sem] theorem eqD_neq (b : Bool) : eqD .neq b = .bool (!b) := rfl
@[go_sem] theorem cellsEq_cons (a b : D) (x y : List D) : cellsEq (a :: x) (b :: y) = (cellEq a b && cellsEq x y) := rfl
@[go_sem] theorem cellsEq_nil (y : List D) : cellsEq [] y = true := by simp [cellsEq]
@[go_sem] theorem cellEq_int (k k' : IntKind) (a b : Int) : cellEq (.int k a) (.int k' b) = (a == b) := rfl
@[go_sem] theorem cellEq_bool (a b : Bool) : cellEq (.bool a) (.bool b) = (a == b) := rfl
@[go_sem] theorem cellEq_str (a b : ByteArray) : cellEq (.str a) (.str b) = (a == b) := rfl
section
variable {P : Program}
@[go_sem] theorem binOk_int (c : Bool) (op : BinOp) (t : TypeId) (k k' : IntKind) (a b : Int) : binOk P c op t (.int k a) (.int k' b) = iopOk op k k' b := rfl
@[go_sem] theorem binOk_str (c : Bool) (op : BinOp) (t : TypeId) (a b : ByteArray) : binOk P c op t (.str a) (.str b) = sopOk op a b := rfl
@[go_sem] theorem binOk_bool (c : Bool) (op : BinOp) (t : TypeId) (a b : Bool) : binOk P c op t (.bool a) (.bool b) = (isEq op ∧ tyT P t = .bool) := rfl
@[go_sem] theorem binOk_agg (c : Bool) (op : BinOp) (t : TypeId) (a b : List D) : binOk P c op t (.agg a) (.agg b) = (isEq op ∧ isAggT P t = true ∧ leavesOkO (leavesT P 9 t) a b) := rfl
@[go_sem] theorem binOk_nn (c : Bool) (op : BinOp) (t : TypeId) : binOk P c op t .nilif .nilif = (isEq op ∧ isIface P t = true ∧ c = true) := rfl
@[go_sem] theorem binOk_sn (c : Bool) (op : BinOp) (t : TypeId) : binOk P c op t .someif .nilif = (isEq op ∧ isIface P t = true) := rfl
@[go_sem] theorem binOk_ns (c : Bool) (op : BinOp) (t : TypeId) : binOk P c op t .nilif .someif = (isEq op ∧ isIface P t = true) := rfl
@[go_sem] theorem binOk_pp (c : Bool) (op : BinOp) (t : TypeId) : binOk P c op t .nilp .nilp = (isEq op ∧ isPtr (tyT P t)) := rfl
@[go_sem] theorem binOk_ap (c : Bool) (op : BinOp) (t : TypeId) (r o : Nat) : binOk P c op t (.addr r o) .nilp = (isEq op ∧ isPtr (tyT P t)) := rfl
@[go_sem] theorem binOk_ep (c : Bool) (op : BinOp) (t : TypeId) (cs : List D) : binOk P c op t (.eaddr cs) .nilp = (isEq op ∧ isPtr (tyT P t)) := rfl
end
@[go_sem] theorem isEq_eql : isEq .eql = True := by simp [isEq]
@[go_sem] theorem isEq_neq : isEq .neq = True := by simp [isEq]
@[go_sem] theorem isPtr_ptr : isPtr .ptr = True := rfl
attribute [go_sem] isConst
@[go_sem] theorem leavesOkO_some (ls : List Leaf) (a b : List D) : leavesOkO (some ls) a b = leavesOk ls a b := rfl
@[go_sem] theorem leavesOk_nil : leavesOk [] [] [] = True := rfl
@[go_sem] theorem leavesOk_cons (l : Leaf) (ls : List Leaf) (a b : D) (x y : List D) : leavesOk (l :: ls) (a :: x) (b :: y) = (leafOk l a b ∧ leavesOk ls x y) := rfl
@[go_sem] theorem leafOk_int (k k' : IntKind) (a b : Int) : leafOk .int (.int k a) (.int k' b) = (k = k') := rfl
@[go_sem] theorem leafOk_bool (a b : Bool) : leafOk .bool (.bool a) (.bool b) = True := rfl
@[go_sem] theorem leafOk_str (a b : ByteArray) : leafOk .str (.str a) (.str b) = True := rfl
@[go_sem] theorem iop_add (k : IntKind) (a b : Int) : iop .add k a b = .int k (k.wrap (a + b)) := rfl
@[go_sem] theorem iop_sub (k : IntKind) (a b : Int) : iop .sub k a b = .int k (k.wrap (a - b)) := rfl
@[go_sem] theorem iop_mul (k : IntKind) (a b : Int) : iop .mul k a b = .int k (k.wrap (a * b)) := rfl
@[go_sem] theorem iop_quo (k : IntKind) (a b : Int) : iop .quo k a b = .int k (k.wrap (a.tdiv b)) := rfl
@[go_sem] theorem iop_rem (k : IntKind) (a b : Int) : iop .rem k a b = .int k (a.tmod b) := rfl
@[go_sem] theorem iop_eql (k : IntKind) (a b : Int) : iop .eql k a b = .bool (a == b) := rfl
@[go_sem] theorem iop_neq (k : IntKind) (a b : Int) : iop .neq k a b = .bool (a != b) := rfl
@[go_sem] theorem iop_lss (k : IntKind) (a b : Int) : iop .lss k a b = .bool (decide (a < b)) := rfl
@[go_sem] theorem iop_leq (k : IntKind) (a b : Int) : iop .leq k a b = .bool (decide (a ≤ b)) := rfl
@[go_sem] theorem iop_gtr (k : IntKind) (a b : Int) : iop .gtr k a b = .bool (decide (b < a)) := rfl
@[go_sem] theorem iop_geq (k : IntKind) (a b : Int) : iop .geq k a b = .bool (decide (b ≤ a)) := rfl
def ishl (k : IntKind) (a b : Int) : Int := k.wrap (a * 2 ^ (min b.toNat k.bits))
def ishr (k : IntKind) (a b : Int) : Int := a.fdiv (2 ^ (min b.toNat k.bits))
def iand (k : IntKind) (a b : Int) : Int := k.wrap (BitVec.ofInt k.bits a &&& BitVec.ofInt k.bits b).toNat
def ior (k : IntKind) (a b : Int) : Int := k.wrap (BitVec.ofInt k.bits a ||| BitVec.ofInt k.bits b).toNat
def ixor (k : IntKind) (a b : Int) : Int := k.wrap (BitVec.ofInt k.bits a ^^^ BitVec.ofInt k.bits b).toNat
def iandNot (k : IntKind) (a b : Int) : Int := k.wrap (BitVec.ofInt k.bits a &&& ~~~ BitVec.ofInt k.bits b).toNat
def inot (k : IntKind) (n : Int) : Int := k.wrap (BitVec.ofInt k.bits (if k.signed then -1 else k.max) ^^^ BitVec.ofInt k.bits n).toNat
@[go_sem] theorem iop_shl (k : IntKind) (a b : Int) : iop .shl k a b = .int k (ishl k a b) := rfl
@[go_sem] theorem iop_shr (k : IntKind) (a b : Int) : iop .shr k a b = .int k (ishr k a b) := rfl
@[go_sem] theorem iop_and (k : IntKind) (a b : Int) : iop .and k a b = .int k (iand k a b) := rfl
@[go_sem] theorem iop_or (k : IntKind) (a b : Int) : iop .or k a b = .int k (ior k a b) := rfl
@[go_sem] theorem iop_xor (k : IntKind) (a b : Int) : iop .xor k a b = .int k (ixor k a b) := rfl
@[go_sem] theorem iop_andNot (k : IntKind) (a b : Int) : iop .andNot k a b = .int k (iandNot k a b) := rfl
@[go_sem] theorem iopOk_add (k k' : IntKind) (b : Int) : iopOk .add k k' b = (k = k') := rfl
@[go_sem] theorem iopOk_sub (k k' : IntKind) (b : Int) : iopOk .sub k k' b = (k = k') := rfl
@[go_sem] theorem iopOk_mul (k k' : IntKind) (b : Int) : iopOk .mul k k' b = (k = k') := rfl
@[go_sem] theorem iopOk_quo (k k' : IntKind) (b : Int) : iopOk .quo k k' b = (k = k' ∧ b ≠ 0) := rfl
@[go_sem] theorem iopOk_rem (k k' : IntKind) (b : Int) : iopOk .rem k k' b = (k = k' ∧ b ≠ 0) := rfl
@[go_sem] theorem iopOk_eql (k k' : IntKind) (b : Int) : iopOk .eql k k' b = (k = k') := rfl
@[go_sem] theorem iopOk_neq (k k' : IntKind) (b : Int) : iopOk .neq k k' b = (k = k') := rfl
@[go_sem] theorem iopOk_lss (k k' : IntKind) (b : Int) : iopOk .lss k k' b = (k = k') := rfl
@[go_sem] theorem iopOk_leq (k k' : IntKind) (b : Int) : iopOk .leq k k' b = (k = k') := rfl
@[go_sem] theorem iopOk_gtr (k k' : IntKind) (b : Int) : iopOk .gtr k k' b = (k = k') := rfl
@[go_sem] theorem iopOk_geq (k k' : IntKind) (b : Int) : iopOk .geq k k' b = (k = k') := rfl
@[go_sem] theorem iopOk_and (k k' : IntKind) (b : Int) : iopOk .and k k' b = (k = k') := rfl
@[go_sem] theorem iopOk_or (k k' : IntKind) (b : Int) : iopOk .or k k' b = (k = k') := rfl
@[go_sem] theorem iopOk_xor (k k' : IntKind) (b : Int) : iopOk .xor k k' b = (k = k') := rfl
@[go_sem] theorem iopOk_andNot (k k' : IntKind) (b : Int) : iopOk .andNot k k' b = (k = k') := rfl
@[go_sem] theorem iopOk_shl (k k' : IntKind) (b : Int) : iopOk .shl k k' b = (0 ≤ b) := rfl
@[go_sem] theorem iopOk_shr (k k' : IntKind) (b : Int) : iopOk .shr k k' b = (0 ≤ b) := rfl
@[go_sem] theorem sop_add (a b : ByteArray) : sop .add a b = .str (a ++ b) := rfl
@[go_sem] theorem sop_eql (a b : ByteArray) : sop .eql a b = .bool (a.toList == b.toList) := rfl
@[go_sem] theorem sop_neq (a b : ByteArray) : sop .neq a b = .bool (!(a.toList == b.toList)) := rfl
@[go_sem] theorem sop_lss (a b : ByteArray) : sop .lss a b = .bool (Op.bytesLess a.toList b.toList) := rfl
@[go_sem] theorem sopOk_add (a b : ByteArray) : sopOk .add a b = (a.size + b.size ≤ 2 ^ 62) := rfl
@[go_sem] theorem sopOk_eql (a b : ByteArray) : sopOk .eql a b = True := rfl
@[go_sem] theorem sopOk_neq (a b : ByteArray) : sopOk .neq a b = True := rfl
@[go_sem] theorem sopOk_lss (a b : ByteArray) : sopOk .lss a b = True := rfl
@[go_sem] theorem unopV_not (b : Bool) : unopV .not (.bool b) = .bool (!b) := rfl
@[go_sem] theorem unopV_neg (k : IntKind) (n : Int) : unopV .neg (.int k n) = .int k (k.wrap (0 - n)) := rfl
@[go_sem] theorem unopV_xor (k : IntKind) (n : Int) : unopV .xor (.int k n) = .int k (inot k n) := rfl
@[go_sem] theorem unopOk_not (b : Bool) : unopOk .not (.bool b) = True := by simp [unopOk]
@[go_sem] theorem unopOk_neg (k : IntKind) (n : Int) : unopOk .neg (.int k n) = True := by simp [unopOk]
@[go_sem] theorem unopOk_xor (k : IntKind) (n : Int) : unopOk .xor (.int k n) = True := by simp [unopOk]
@[go_sem] theorem convV_int (s : Ty) (k k' : IntKind) (n : Int) : convV s (.int k) (.int k' n) = .int k (k.wrap n) := rfl
@[go_sem] theorem convOk_int (k1 k2 k : IntKind) (n : Int) : convOk (.int k1) (.int k2) (.int k n) = True := by simp [convOk]
@[go_sem] theorem convV_str (s : Ty) (b : ByteArray) : convV s .str (.str b) = .str b := rfl
@[go_sem] theorem convOk_str (b : ByteArray) : convOk .str .str (.str b) = True := by simp [convOk]
@[go_sem] theorem nilOk_addr (r o : Nat) : nilOk (.addr r o) = True := rfl
@[go_sem] theorem nilOk_oaddr (r z i k : Nat) : nilOk (.oaddr r z i k) = True := rfl
@[go_sem] theorem nilOk_eaddr (c : List D) : nilOk (.eaddr c) = True := rfl
@[go_sem] theorem nilOk_fn (f : FuncId) (c : List D) : nilOk (.fn f c) = True := rfl

/-! ### addresses -/
def fOff : List FT → Nat → Nat
  | [], _ => 0
  | x :: _, 0 => x.off
  | _ :: r, n + 1 => fOff r n
theorem fOff_eq : ∀ (fs : List FT) (f : Nat), ((fs[f]?).map (·.off)).getD 0 = fOff fs f
  | [], f => by simp [fOff]
  | x :: r, 0 => by simp [fOff]
  | x :: r, n + 1 => by simp [fOff, fOff_eq r n]
@[go_sem] theorem fOff_zero (x : FT) (r : List FT) : fOff (x :: r) 0 = x.off := rfl
@[go_sem] theorem fOff_succ (x : FT) (r : List FT) (n : Nat) : fOff (x :: r) (n + 1) = fOff r n := rfl
@[go_sem] theorem faV_addr (fs : List FT) (f r o : Nat) : faV fs f (.addr r o) = .addr r (o + fOff fs f) := by simp only [faV, fOff_eq]
@[go_sem] theorem faV_oaddr (fs : List FT) (f r z i k : Nat) : faV fs f (.oaddr r z i k) = .oaddr r z i (k + fOff fs f) := by simp only [faV, fOff_eq]
@[go_sem] theorem faV_eaddr (fs : List FT) (f : Nat) (cs : List D) : faV fs f (.eaddr cs) = .eaddr (cs.drop (fOff fs f)) := by simp only [faV, fOff_eq]
@[go_sem] theorem faOk_addr (fs : List FT) (f r o : Nat) : faOk fs f (.addr r o) = (f < fs.length) := rfl
@[go_sem] theorem faOk_oaddr (fs : List FT) (f r z i k : Nat) : faOk fs f (.oaddr r z i k) = (f < fs.length) := rfl
@[go_sem] theorem faOk_eaddr (fs : List FT) (f : Nat) (cs : List D) : faOk fs f (.eaddr cs) = (f < fs.length) := rfl
@[go_sem] theorem iaT_sl (t : Ty) (z : Nat) (rows : List (List D)) (k : IntKind) (i : Int) : iaT t (.sl z rows) (.int k i) = .eaddr (rows.getD i.toNat []) := rfl
@[go_sem] theorem iaT_ref (z b : Nat) (a : Bool) (r : Nat) (k : IntKind) (i : Int) : iaT (.slice z b a) (.ref r) (.int k i) = .oaddr r z i.toNat 0 := rfl
@[go_sem] theorem iaT_osub (t : Ty) (r z lo len : Nat) (k : IntKind) (i : Int) : iaT t (.osub r z lo len) (.int k i) = .oaddr r z (lo + i.toNat) 0 := rfl
@[go_sem] theorem iaT_bsub (t : Ty) (r off z len c : Nat) (k : IntKind) (i : Int) : iaT t (.bsub r off z len c) (.int k i) = .addr r (off + i.toNat * z) := rfl
@[go_sem] theorem iaT_addr (n z : Nat) (a : Bool) (r o : Nat) (k : IntKind) (i : Int) : iaT (.arr n z a) (.addr r o) (.int k i) = .addr r (o + i.toNat * z) := rfl
@[go_sem] theorem iaT_oaddr (n z' : Nat) (a : Bool) (r z j q : Nat) (k : IntKind) (i : Int) : iaT (.arr n z' a) (.oaddr r z j q) (.int k i) = .oaddr r z j (q + i.toNat * z') := rfl
@[go_sem] theorem iaT_eaddr (n z : Nat) (a : Bool) (cs : List D) (k : IntKind) (i : Int) : iaT (.arr n z a) (.eaddr cs) (.int k i) = .eaddr (cs.drop (i.toNat * z)) := rfl
@[go_sem] theorem iaTOk_sl (e : Env) (z' b : Nat) (a : Bool) (z : Nat) (rows : List (List D)) (k : IntKind) (i : Int) : iaTOk e (.slice z' b a) (.sl z rows) (.int k i) = (z = z' ∧ 0 ≤ i ∧ i < rows.length) := rfl
@[go_sem] theorem iaTOk_ref (e : Env) (z b : Nat) (a : Bool) (r : Nat) (k : IntKind) (i : Int) : iaTOk e (.slice z b a) (.ref r) (.int k i) = (0 ≤ i ∧ ownIs z i (e.o r)) := rfl
@[go_sem] theorem ownIs_own (z : Nat) (i : Int) (z' : Nat) (rows : List (List D)) : ownIs z i (.own z' rows) = (z' = z ∧ i < rows.length) := rfl
@[go_sem] theorem iaTOk_osub (e : Env) (z' b : Nat) (a : Bool) (r z lo len : Nat) (k : IntKind) (i : Int) : iaTOk e (.slice z' b a) (.osub r z lo len) (.int k i) = (z = z' ∧ 0 ≤ i ∧ i < len) := rfl
@[go_sem] theorem iaTOk_bsub (e : Env) (z' b : Nat) (a : Bool) (r off z len c : Nat) (k : IntKind) (i : Int) : iaTOk e (.slice z' b a) (.bsub r off z len c) (.int k i) = (z = z' ∧ 0 ≤ i ∧ i < len) := rfl
@[go_sem] theorem iaTOk_addr (e : Env) (n z : Nat) (a : Bool) (r o : Nat) (k : IntKind) (i : Int) : iaTOk e (.arr n z a) (.addr r o) (.int k i) = (0 ≤ i ∧ i < n) := rfl
@[go_sem] theorem iaTOk_oaddr (e : Env) (n z' : Nat) (a : Bool) (r z j q : Nat) (k : IntKind) (i : Int) : iaTOk e (.arr n z' a) (.oaddr r z j q) (.int k i) = (0 ≤ i ∧ i < n) := rfl
@[go_sem] theorem iaTOk_eaddr (e : Env) (n z : Nat) (a : Bool) (cs : List D) (k : IntKind) (i : Int) : iaTOk e (.arr n z a) (.eaddr cs) (.int k i) = (0 ≤ i ∧ i < n) := rfl
@[go_sem] theorem ixV_arr (n z : Nat) (ea : Bool) (cs : List D) (k : IntKind) (i : Int) : ixV (.arr n z ea) (.agg cs) (.int k i) = part ea (i.toNat * z) z cs := rfl
@[go_sem] theorem ixOk_arr (n z : Nat) (ea : Bool) (cs : List D) (k : IntKind) (i : Int) : ixOk (.arr n z ea) (.agg cs) (.int k i) = (0 ≤ i ∧ i < n ∧ cs.length = n * z) := rfl
@[go_sem] theorem ixV_str (t : Ty) (s : ByteArray) (k : IntKind) (i : Int) : ixV t (.str s) (.int k i) = .int .u8 ((s[i.toNat]?).map (·.toNat)|>.getD 0) := rfl
@[go_sem] theorem ixOk_str (s : ByteArray) (k : IntKind) (i : Int) : ixOk .str (.str s) (.int k i) = (0 ≤ i ∧ i < s.size) := by simp [ixOk]
@[go_sem] theorem part_agg (o n : Nat) (cs : List D) : part true o n cs = .agg ((cs.drop o).take n) := rfl
@[go_sem] theorem part_one (o n : Nat) (cs : List D) : part false o n cs = (cs.drop o).headD .undef := rfl
def fldP (f : Option FT) (cs : List D) : D := match f with
  | some x => part x.agg x.off x.sz cs
  | none => .undef
def fldPOk (f : Option FT) (cs : List D) : Prop := match f with
  | some x => x.off + x.sz ≤ cs.length
  | none => False
@[go_sem] theorem fldV_agg (fs : List FT) (f : Nat) (cs : List D) : fldV fs f (.agg cs) = fldP fs[f]? cs := rfl
@[go_sem] theorem fldOk_agg (fs : List FT) (f : Nat) (cs : List D) : fldOk fs f (.agg cs) = fldPOk fs[f]? cs := rfl
@[go_sem] theorem fldP_some (o s : Nat) (a : Bool) (cs : List D) : fldP (some ⟨o, s, a⟩) cs = part a o s cs := rfl
@[go_sem] theorem fldPOk_some (o s : Nat) (a : Bool) (cs : List D) : fldPOk (some ⟨o, s, a⟩) cs = (o + s ≤ cs.length) := rfl

/-! ### lengths, parts -/
section
variable {e : Env}
@[go_sem] theorem lenT_arr (n z : Nat) (a : Bool) (x : D) : lenT e (.arr n z a) x = .int .i64 n := rfl
@[go_sem] theorem lenT_sl (z b : Nat) (a : Bool) (y : Nat) (r : List (List D)) : lenT e (.slice z b a) (.sl y r) = .int .i64 r.length := rfl
@[go_sem] theorem lenT_nil (z b : Nat) (a : Bool) : lenT e (.slice z b a) .nil = .int .i64 0 := rfl
@[go_sem] theorem lenT_emp (z b : Nat) (a : Bool) : lenT e (.slice z b a) .emp = .int .i64 0 := rfl
@[go_sem] theorem lenT_ref (z b : Nat) (a : Bool) (r : Nat) : lenT e (.slice z b a) (.ref r) = ownLenV (e.o r) := rfl
@[go_sem] theorem ownLenV_own (z : Nat) (r : List (List D)) : ownLenV (.own z r) = .int .i64 r.length := rfl
@[go_sem] theorem lenT_osub (z b : Nat) (a : Bool) (r y lo l : Nat) : lenT e (.slice z b a) (.osub r y lo l) = .int .i64 l := rfl
@[go_sem] theorem lenT_bsub (z b : Nat) (a : Bool) (r y lo l c : Nat) : lenT e (.slice z b a) (.bsub r y lo l c) = .int .i64 l := rfl
@[go_sem] theorem lenT_str (s : ByteArray) : lenT e .str (.str s) = .int .i64 s.size := rfl
@[go_sem] theorem lenTOk_arr (n z : Nat) (a : Bool) (x : D) : lenTOk e (.arr n z a) x = True := rfl
@[go_sem] theorem lenTOk_sl (z b : Nat) (a : Bool) (y : Nat) (r : List (List D)) : lenTOk e (.slice z b a) (.sl y r) = True := rfl
@[go_sem] theorem lenTOk_nil (z b : Nat) (a : Bool) : lenTOk e (.slice z b a) .nil = True := rfl
@[go_sem] theorem lenTOk_emp (z b : Nat) (a : Bool) : lenTOk e (.slice z b a) .emp = True := rfl
@[go_sem] theorem lenTOk_ref (z b : Nat) (a : Bool) (r : Nat) : lenTOk e (.slice z b a) (.ref r) = ownLenOk (e.o r) := rfl
@[go_sem] theorem ownLenOk_own (z : Nat) (r : List (List D)) : ownLenOk (.own z r) = True := rfl
@[go_sem] theorem lenTOk_osub (z b : Nat) (a : Bool) (r y lo l : Nat) : lenTOk e (.slice z b a) (.osub r y lo l) = True := rfl
@[go_sem] theorem lenTOk_bsub (z b : Nat) (a : Bool) (r y lo l c : Nat) : lenTOk e (.slice z b a) (.bsub r y lo l c) = True := rfl
@[go_sem] theorem lenTOk_str (s : ByteArray) : lenTOk e .str (.str s) = True := rfl
def slX (z z' N : Nat) (lo hi : Int) : Prop := z = z' ∧ 0 ≤ lo ∧ lo ≤ hi ∧ hi ≤ N
@[go_sem] theorem slX_eq (z z' N : Nat) (lo hi : Int) : slX z z' N lo hi = (z = z' ∧ 0 ≤ lo ∧ lo ≤ hi ∧ hi ≤ N) := rfl
theorem SlK_if (z z' N : Nat) (k : IntKind) (lo : Int) (k' : IntKind) (hi : Int) : SlK (if z = z' then some N else none) (.int k lo) (.int k' hi) (fun _ _ _ => True) = slX z z' N lo hi := by
  unfold slX
  by_cases h : z = z'
  · simp [h, SlK]
  · simp [h, SlK]
@[go_sem] theorem slT_sl (z' b : Nat) (a : Bool) (z : Nat) (rows : List (List D)) (k k' : IntKind) (lo hi : Int) : slT e (.slice z' b a) (.sl z rows) (.int k lo) (some (.int k' hi)) = .sl z ((rows.take hi.toNat).drop lo.toNat) := rfl
@[go_sem] theorem slTOk_sl (z' b : Nat) (a : Bool) (z : Nat) (rows : List (List D)) (k k' : IntKind) (lo hi : Int) : slTOk e (.slice z' b a) (.sl z rows) (.int k lo) (some (.int k' hi)) = slX z z' rows.length lo hi := SlK_if _ _ _ _ _ _ _
theorem slNd_if (z z' N : Nat) (h : z = z') : slNd (if z = z' then some N else none) = N := by simp [h, slNd]
@[go_sem] theorem slT_slE (b : Nat) (a : Bool) (z : Nat) (rows : List (List D)) (k : IntKind) (lo : Int) : slT e (.slice z b a) (.sl z rows) (.int k lo) none = .sl z (rows.drop lo.toNat) := by
  simp [slT, slN, slNd, slD2, slD]
@[go_sem] theorem slTOk_slE (b : Nat) (a : Bool) (z : Nat) (rows : List (List D)) (k : IntKind) (lo : Int) : slTOk e (.slice z b a) (.sl z rows) (.int k lo) none = (0 ≤ lo ∧ lo ≤ rows.length) := by
  simp [slTOk, slC, slN, slNd, SlK]
@[go_sem] theorem slT_str (s : ByteArray) (k k' : IntKind) (lo hi : Int) : slT e .str (.str s) (.int k lo) (some (.int k' hi)) = .str (s.extract lo.toNat hi.toNat) := rfl
@[go_sem] theorem slTOk_str (s : ByteArray) (k k' : IntKind) (lo hi : Int) : slTOk e .str (.str s) (.int k lo) (some (.int k' hi)) = (0 ≤ lo ∧ lo ≤ hi ∧ hi ≤ s.size) := by simp [slTOk, slC, slN, SlK]
@[go_sem] theorem slT_strE (s : ByteArray) (k : IntKind) (lo : Int) : slT e .str (.str s) (.int k lo) none = .str (s.extract lo.toNat s.size) := by simp [slT, slN, slNd, slD2, slD]
@[go_sem] theorem slTOk_strE (s : ByteArray) (k : IntKind) (lo : Int) : slTOk e .str (.str s) (.int k lo) none = (0 ≤ lo ∧ lo ≤ s.size) := by simp [slTOk, slC, slN, slNd, SlK]
@[go_sem] theorem slT_nil (z b : Nat) (a : Bool) (k k' : IntKind) (lo hi : Int) : slT e (.slice z b a) .nil (.int k lo) (some (.int k' hi)) = .nil := rfl
@[go_sem] theorem slTOk_nil (z b : Nat) (a : Bool) (k k' : IntKind) (lo hi : Int) : slTOk e (.slice z b a) .nil (.int k lo) (some (.int k' hi)) = (0 ≤ lo ∧ lo ≤ hi ∧ hi ≤ 0) := by simp [slTOk, slC, slN, SlK]
@[go_sem] theorem slT_nilE (z b : Nat) (a : Bool) (k : IntKind) (lo : Int) : slT e (.slice z b a) .nil (.int k lo) none = .nil := rfl
@[go_sem] theorem slTOk_nilE (z b : Nat) (a : Bool) (k : IntKind) (lo : Int) : slTOk e (.slice z b a) .nil (.int k lo) none = (0 ≤ lo ∧ lo ≤ 0) := by simp [slTOk, slC, slN, slNd, SlK]
/-- a part of an own slice -/
def slOw (z r : Nat) (lo : Int) (hi : Option Int) (ob : D) : D := match ob with
  | .own z' rows => .osub r z' lo.toNat ((hi.getD (slNd (if z' = z then some rows.length else none))).toNat - lo.toNat)
  | _ => .undef
def slOwOk (z : Nat) (lo : Int) (hi : Option Int) (ob : D) : Prop := match ob with
  | .own z' rows => slX z' z rows.length lo (hi.getD rows.length)
  | _ => False
@[go_sem] theorem slOw_own (z r : Nat) (lo hi : Int) (z' : Nat) (rows : List (List D)) : slOw z r lo (some hi) (.own z' rows) = .osub r z' lo.toNat (hi.toNat - lo.toNat) := rfl
@[go_sem] theorem slOw_ownE (z r : Nat) (lo : Int) (rows : List (List D)) : slOw z r lo none (.own z rows) = .osub r z lo.toNat (rows.length - lo.toNat) := by simp [slOw, slNd]
@[go_sem] theorem slOwOk_own (z : Nat) (lo hi : Int) (z' : Nat) (rows : List (List D)) : slOwOk z lo (some hi) (.own z' rows) = slX z' z rows.length lo hi := rfl
@[go_sem] theorem slOwOk_ownE (z : Nat) (lo : Int) (z' : Nat) (rows : List (List D)) : slOwOk z lo none (.own z' rows) = slX z' z rows.length lo rows.length := rfl
@[go_sem] theorem slT_bsub (z' b : Nat) (a : Bool) (r o z l c : Nat) (k k' : IntKind) (lo hi : Int) : slT e (.slice z' b a) (.bsub r o z l c) (.int k lo) (some (.int k' hi)) = .bsub r (o + lo.toNat * z) z (hi.toNat - lo.toNat) (c - lo.toNat) := rfl
@[go_sem] theorem slT_bsubE (b : Nat) (a : Bool) (r o z l c : Nat) (k : IntKind) (lo : Int) : slT e (.slice z b a) (.bsub r o z l c) (.int k lo) none = .bsub r (o + lo.toNat * z) z (l - lo.toNat) (c - lo.toNat) := by
  simp [slT, slN, slNd, slD2, slD]
@[go_sem] theorem slTOk_bsub (z' b : Nat) (a : Bool) (r o z l c : Nat) (k k' : IntKind) (lo hi : Int) : slTOk e (.slice z' b a) (.bsub r o z l c) (.int k lo) (some (.int k' hi)) = slX z z' c lo hi := SlK_if _ _ _ _ _ _ _
@[go_sem] theorem slTOk_bsubE (b : Nat) (a : Bool) (r o z l c : Nat) (k : IntKind) (lo : Int) : slTOk e (.slice z b a) (.bsub r o z l c) (.int k lo) none = (0 ≤ lo ∧ lo ≤ l ∧ l ≤ c) := by
  simp [slTOk, slC, slN, slNd, SlK]
@[go_sem] theorem slT_ref (z b : Nat) (a : Bool) (r : Nat) (k k' : IntKind) (lo hi : Int) : slT e (.slice z b a) (.ref r) (.int k lo) (some (.int k' hi)) = slOw z r lo (some hi) (e.o r) := by
  simp only [slT, Option.getD_some, slD2, slD, slOw]
  cases e.o r <;> rfl
@[go_sem] theorem slT_refE (z b : Nat) (a : Bool) (r : Nat) (k : IntKind) (lo : Int) : slT e (.slice z b a) (.ref r) (.int k lo) none = slOw z r lo none (e.o r) := by
  simp only [slT, slN, Option.getD_none, slD2, slD, slOw]
  cases e.o r <;> rfl
@[go_sem] theorem slTOk_ref (z b : Nat) (a : Bool) (r : Nat) (k k' : IntKind) (lo hi : Int) : slTOk e (.slice z b a) (.ref r) (.int k lo) (some (.int k' hi)) = slOwOk z lo (some hi) (e.o r) := by
  simp only [slTOk, slC, slN, Option.getD_some, slOwOk]
  cases e.o r <;> try rfl
  exact SlK_if _ _ _ _ _ _ _
@[go_sem] theorem slTOk_refE (z b : Nat) (a : Bool) (r : Nat) (k : IntKind) (lo : Int) : slTOk e (.slice z b a) (.ref r) (.int k lo) none = slOwOk z lo none (e.o r) := by
  simp only [slTOk, slC, slN, Option.getD_none, slOwOk]
  cases e.o r <;> try rfl
  simp only [SlK_if, slX]
  rename_i z' rows
  by_cases h : z' = z
  · simp [h, slNd]
  · simp [h]
end

/-! ### building -/
@[go_sem] theorem fillD_nil (cs : List D) : fillD cs [] = cs := rfl
@[go_sem] theorem fillD_cons (cs : List D) (o s : Nat) (v : D) (r : List (Nat × Nat × D)) : fillD cs ((o, s, v) :: r) = fillD (wput cs o v.cells) r := rfl
@[go_sem] theorem fillOk_nil (n : Nat) : fillOk n [] = True := rfl
@[go_sem] theorem fillOk_cons (n o s : Nat) (v : D) (r : List (Nat × Nat × D)) : fillOk n ((o, s, v) :: r) = (v.cells.length = s ∧ o + s ≤ n ∧ (∀ c ∈ v.cells, cellOk c) ∧ fillOk n r) := rfl
@[go_sem] theorem rowsOf_zero (z : Nat) (cs : List D) : rowsOf z 0 cs = [] := rfl
@[go_sem] theorem rowsOf_succ (z n : Nat) (cs : List D) : rowsOf z (n + 1) cs = cs.take z :: rowsOf z n (cs.drop z) := rfl
@[go_sem] theorem wput_eq (cs : List D) (o : Nat) (xs : List D) : wput cs o xs = cs.take o ++ xs ++ cs.drop (o + xs.length) := rfl
@[go_sem] theorem getD_cons0 (a d : D) (l : List D) : (a :: l).getD 0 d = a := rfl
@[go_sem] theorem getD_consS (a d : D) (l : List D) (n : Nat) : (a :: l).getD (n + 1) d = l.getD n d := rfl
@[go_sem] theorem intsOk_nil : intsOk [] = True := rfl
@[go_sem] theorem intsOk_cons (k : IntKind) (n : Int) (r : List D) : intsOk (.int k n :: r) = intsOk r := rfl
@[go_sem] theorem foldD_two (f : D → D → D) (a b : D) : foldD f [a, b] = f a b := rfl
@[go_sem] theorem foldD_three (f : D → D → D) (a b c : D) : foldD f [a, b, c] = f (f a b) c := rfl
@[go_sem] theorem max2D_int (k k' : IntKind) (x y : Int) : max2D (.int k x) (.int k' y) = .int k (max x y) := by
  show D.int k (if y > x then y else x) = _
  congr 1
  rw [Int.max_def]
  split <;> split <;> omega
@[go_sem] theorem min2D_int (k k' : IntKind) (x y : Int) : min2D (.int k x) (.int k' y) = .int k (min x y) := by
  show D.int k (if y < x then y else x) = _
  congr 1
  rw [Int.min_def]
  split <;> split <;> omega
/-! ### cells -/
@[go_sem] theorem cells_undef : D.cells (.undef) = [.undef] := rfl
@[go_sem] theorem cells_bool (b : Bool) : D.cells (.bool b) = [.bool b] := rfl
@[go_sem] theorem cells_int (k : IntKind) (m : Int) : D.cells (.int k m) = [.int k m] := rfl
@[go_sem] theorem cells_str (s : ByteArray) : D.cells (.str s) = [.str s] := rfl
@[go_sem] theorem cells_nil : D.cells (.nil) = [.nil] := rfl
@[go_sem] theorem cells_emp : D.cells (.emp) = [.emp] := rfl
@[go_sem] theorem cells_nilfn : D.cells (.nilfn) = [.nilfn] := rfl
@[go_sem] theorem cells_nilif : D.cells (.nilif) = [.nilif] := rfl
@[go_sem] theorem cells_someif : D.cells (.someif) = [.someif] := rfl
@[go_sem] theorem cells_nilp : D.cells (.nilp) = [.nilp] := rfl
@[go_sem] theorem cells_sl (z : Nat) (rows : List (List D)) : D.cells (.sl z rows) = [.sl z rows] := rfl
@[go_sem] theorem cells_eaddr (cs : List D) : D.cells (.eaddr cs) = [.eaddr cs] := rfl
@[go_sem] theorem cells_own (z : Nat) (rows : List (List D)) : D.cells (.own z rows) = [.own z rows] := rfl
@[go_sem] theorem cells_ref (r : Nat) : D.cells (.ref r) = [.ref r] := rfl
@[go_sem] theorem cells_addr (r o : Nat) : D.cells (.addr r o) = [.addr r o] := rfl
@[go_sem] theorem cells_oaddr (r z i k : Nat) : D.cells (.oaddr r z i k) = [.oaddr r z i k] := rfl
@[go_sem] theorem cells_osub (r z lo l : Nat) : D.cells (.osub r z lo l) = [.osub r z lo l] := rfl
@[go_sem] theorem cells_bsub (r o z l c : Nat) : D.cells (.bsub r o z l c) = [.bsub r o z l c] := rfl
@[go_sem] theorem cells_fn (f : FuncId) (cs : List D) : D.cells (.fn f cs) = [.fn f cs] := rfl
@[go_sem] theorem cells_agg (cs : List D) : D.cells (.agg cs) = cs := rfl
@[go_sem] theorem cells_tup (cs : List D) : D.cells (.tup cs) = [.tup cs] := rfl
@[go_sem] theorem cells_box (cs : List D) : D.cells (.box cs) = [.box cs] := rfl
@[go_sem] theorem cellOk_undef : cellOk (.undef) = False := rfl
@[go_sem] theorem cellOk_bool (b : Bool) : cellOk (.bool b) = True := rfl
@[go_sem] theorem cellOk_int (k : IntKind) (m : Int) : cellOk (.int k m) = True := rfl
@[go_sem] theorem cellOk_str (s : ByteArray) : cellOk (.str s) = True := rfl
@[go_sem] theorem cellOk_nil : cellOk (.nil) = True := rfl
@[go_sem] theorem cellOk_emp : cellOk (.emp) = True := rfl
@[go_sem] theorem cellOk_nilfn : cellOk (.nilfn) = True := rfl
@[go_sem] theorem cellOk_nilif : cellOk (.nilif) = True := rfl
@[go_sem] theorem cellOk_someif : cellOk (.someif) = True := rfl
@[go_sem] theorem cellOk_nilp : cellOk (.nilp) = True := rfl
@[go_sem] theorem cellOk_sl (z : Nat) (rows : List (List D)) : cellOk (.sl z rows) = True := rfl
@[go_sem] theorem cellOk_eaddr (cs : List D) : cellOk (.eaddr cs) = True := rfl
@[go_sem] theorem cellOk_own (z : Nat) (rows : List (List D)) : cellOk (.own z rows) = False := rfl
@[go_sem] theorem cellOk_ref (r : Nat) : cellOk (.ref r) = True := rfl
@[go_sem] theorem cellOk_addr (r o : Nat) : cellOk (.addr r o) = True := rfl
@[go_sem] theorem cellOk_oaddr (r z i k : Nat) : cellOk (.oaddr r z i k) = True := rfl
@[go_sem] theorem cellOk_osub (r z lo l : Nat) : cellOk (.osub r z lo l) = True := rfl
@[go_sem] theorem cellOk_bsub (r o z l c : Nat) : cellOk (.bsub r o z l c) = True := rfl
@[go_sem] theorem cellOk_fn (f : FuncId) (cs : List D) : cellOk (.fn f cs) = True := rfl
@[go_sem] theorem cellOk_agg (cs : List D) : cellOk (.agg cs) = False := rfl
@[go_sem] theorem cellOk_tup (cs : List D) : cellOk (.tup cs) = False := rfl
@[go_sem] theorem cellOk_box (cs : List D) : cellOk (.box cs) = False := rfl
@[go_sem] theorem permOk_undef : permOk (.undef) = False := by simp [permOk, cellOk]
@[go_sem] theorem permOk_bool (b : Bool) : permOk (.bool b) = True := by simp [permOk, cellOk, D.names]
@[go_sem] theorem permOk_int (k : IntKind) (m : Int) : permOk (.int k m) = True := by simp [permOk, cellOk, D.names]
@[go_sem] theorem permOk_str (s : ByteArray) : permOk (.str s) = True := by simp [permOk, cellOk, D.names]
@[go_sem] theorem permOk_nil : permOk (.nil) = True := by simp [permOk, cellOk, D.names]
@[go_sem] theorem permOk_emp : permOk (.emp) = True := by simp [permOk, cellOk, D.names]
@[go_sem] theorem permOk_nilfn : permOk (.nilfn) = True := by simp [permOk, cellOk, D.names]
@[go_sem] theorem permOk_nilif : permOk (.nilif) = True := by simp [permOk, cellOk, D.names]
@[go_sem] theorem permOk_someif : permOk (.someif) = True := by simp [permOk, cellOk, D.names]
@[go_sem] theorem permOk_nilp : permOk (.nilp) = True := by simp [permOk, cellOk, D.names]
@[go_sem] theorem permOk_sl (z : Nat) (rows : List (List D)) : permOk (.sl z rows) = True := by simp [permOk, cellOk, D.names]
@[go_sem] theorem permOk_eaddr (cs : List D) : permOk (.eaddr cs) = True := by simp [permOk, cellOk, D.names]
@[go_sem] theorem permOk_own (z : Nat) (rows : List (List D)) : permOk (.own z rows) = False := by simp [permOk, cellOk]
@[go_sem] theorem permOk_ref (r : Nat) : permOk (.ref r) = False := by simp [permOk, D.names]
@[go_sem] theorem permOk_addr (r o : Nat) : permOk (.addr r o) = False := by simp [permOk, D.names]
@[go_sem] theorem permOk_oaddr (r z i k : Nat) : permOk (.oaddr r z i k) = False := by simp [permOk, D.names]
@[go_sem] theorem permOk_osub (r z lo l : Nat) : permOk (.osub r z lo l) = False := by simp [permOk, D.names]
@[go_sem] theorem permOk_bsub (r o z l c : Nat) : permOk (.bsub r o z l c) = False := by simp [permOk, D.names]
@[go_sem] theorem permOk_fn (f : FuncId) (cs : List D) : permOk (.fn f cs) = (D.namesL cs = []) := by simp [permOk, cellOk, D.names]
@[go_sem] theorem permOk_agg (cs : List D) : permOk (.agg cs) = False := by simp [permOk, cellOk]
@[go_sem] theorem permOk_tup (cs : List D) : permOk (.tup cs) = False := by simp [permOk, cellOk]
@[go_sem] theorem permOk_box (cs : List D) : permOk (.box cs) = False := by simp [permOk, cellOk]
end Go.Abs
