/- The program's reading of a line; no theorem of a claim. -/
import Derived.Test.YtdklpddmplflgaaDoorV5
set_option linter.unusedSimpArgs false
set_option linter.unusedVariables false
namespace Go.Proofs.YtdklpddmplflgaaDoor
open Go.Abs
theorem kinds_own : Abs.Spec Tryd.prog 19 [] [] [.own 1 (txtsB kindW)] (.ref 0) := by
  refine sgo 2 0 [.tmp 0] mixed Tryd.func19 ?_
  simp -implicitDefEqProofs only [go_sem, seval] <;> rfl
theorem kinds_spec : Abs.Spec Tryd.prog 19 [] [] [] (.sl 1 (txtsB kindW)) := by
  refine Spec.frozen kinds_own [0] rfl ?_
  intro r
  rcases r with _ | r <;> rfl
@[go_sem] theorem renL_adrs' (f : Nat → Option Nat) (r : Nat) (os : List Nat) : D.renL f (adrs r os) = match f r with | some s => adrs s os | none => os.map fun _ => .undef := by
  rw [renL_map, adrs, List.map_map]
  cases h : f r <;> refine List.map_congr_left fun o _ => ?_ <;> simp [D.ren, h]
def zeroC : List Int := [0, 0, 0, 0, 0, 0, 0, 0, 0, 0, 0, 0, 0, 0, 0, 0, 0]
theorem ci_ok (l : List Int) : ∀ x ∈ ci l, cellOk x := by
  intro x hx
  obtain ⟨n, _, rfl⟩ := List.mem_map.1 hx
  trivial
theorem ciz : ci zeroC = [.int .i64 0, .int .i64 0, .int .i64 0, .int .i64 0, .int .i64 0, .int .i64 0, .int .i64 0, .int .i64 0, .int .i64 0, .int .i64 0, .int .i64 0, .int .i64 0, .int .i64 0, .int .i64 0, .int .i64 0, .int .i64 0, .int .i64 0] := rfl
theorem placeL_lt : ∀ k < 22, ∀ o ∈ placeL k, o < 17 := by decide
theorem placeL_len : ∀ k < 22, (placeL k).length ≤ 12 := by decide
theorem placeL_at {k : Nat} (hk : k < 22) {j : Nat} (hj : j < (placeL k).length) : (placeL k).getD j 0 < 17 := by
  refine placeL_lt k hk _ ?_
  rw [List.getD, List.getElem?_eq_getElem hj]
  exact List.getElem_mem hj
theorem bufP_at (r : Nat) (os : List Nat) (M i : Nat) (h : i < os.length) : (bufP (adrs r os) M)[i]? = some (.addr r (os.getD i 0)) := by
  rw [bufP, List.getElem?_append_left (by rw [adrs_len]; exact h)]
  simp [adrs, List.getD, h]
theorem putL_step : ∀ (os : List Nat) (cs ns : List Int) (j : Nat) (n : Int), j < os.length → ns.length = j → putL cs (os.take (j + 1)) (ns ++ [n]) = (putL cs (os.take j) ns).set (os.getD j 0) n
  | o :: os, cs, [], 0, n, _, _ => by simp [putL]
  | o :: os, cs, m :: ns, j + 1, n, h, hn => by
    simp only [List.take_succ_cons, List.cons_append, putL]
    rw [putL_step os (cs.set o m) ns j n (by simpa using h) (by simpa using hn)]
    rfl
theorem numsOf_app : ∀ {ws : List (List UInt8)} {ns : List Int} {w : List UInt8} {n : Int}, numsOf ws = some ns → numOf w = some n → numsOf (ws ++ [w]) = some (ns ++ [n])
  | [], ns, w, n, h, hn => by
    obtain rfl := Option.some.inj h
    simp [numsOf, hn]
  | x :: r, ns, w, n, h, hn => by
    simp only [numsOf] at h
    split at h
    · rename_i a b h1 h2
      obtain rfl := Option.some.inj h
      simp only [List.cons_append, numsOf, h1, numsOf_app h2 hn]
    · cases h
theorem spl_wlen : ∀ (l cur : List UInt8), ∀ w ∈ spl l cur, w.length ≤ cur.length + l.length
  | [], cur, w, h => by simp only [spl, List.mem_singleton] at h; rw [h]; simp
  | b :: r, cur, w, h => by
    simp only [spl] at h
    split at h
    · rcases List.mem_cons.1 h with rfl | h
      · simp
      · have := spl_wlen r [] w h
        simp at this ⊢; omega
    · have := spl_wlen r _ w h
      simp at this ⊢; omega
theorem spl_count : ∀ (l cur : List UInt8), (spl l cur).length ≤ l.length + 1
  | [], cur => by simp [spl]
  | b :: r, cur => by
    simp only [spl]
    split
    · have := spl_count r []
      simp; omega
    · have := spl_count r (cur ++ [b])
      simp; omega
set_option maxRecDepth 8000 in
theorem read_spec (l : List UInt8) (hl : l.length ≤ 1000000) : Abs.Spec Tryd.prog 8 [] [.str (B l)] [] (.tup [.agg (ci ((readC l).getD zeroC)), .int .i64 (if (readC l).isSome then 0 else 22)]) := by
  obtain ⟨w, ws, hs⟩ : ∃ w ws, spl l [] = w :: ws := by
    cases h : spl l [] with
    | nil => exact absurd h (spl_ne _ _)
    | cons w ws => exact ⟨w, ws, rfl⟩
  have hS := split_spec l (by omega)
  have hwl : ∀ x ∈ ws, x.length ≤ 1000000000 := fun x hx => by
    have := spl_wlen l [] x (by rw [hs]; exact List.mem_cons_of_mem _ hx)
    simp at this; omega
  have hwn : ws.length ≤ 1000000 := by
    have := spl_count l []
    rw [hs] at this
    simp at this; omega
  rw [hs] at hS
  have hR0 : readC l = match kindOf w, numsOf ws with
    | some k, some ns => if ns.length = (placeL k).length then some (putL (bareC 0 0 k) (placeL k) ns) else none
    | _, _ => none := by unfold readC; rw [hs]; rfl
  obtain ⟨R, hR⟩ : ∃ R, R = readC l := ⟨_, rfl⟩
  rw [← hR] at hR0 ⊢
  clear hR hs
  have hK := kinds_spec
  have hw0 : (txtsB (w :: ws)).getD 0 [] = [.str (B w)] := rfl
  refine sgo 68 1 [.cell 2 24, .tmp 3] mixed Tryd.func8 ?_
  simp -implicitDefEqProofs only [go_sem, seval]
  (with_reducible and_intros)<;>first|exact .dq|omega|skip
  refine CallN.pure hS ?_
  simp -implicitDefEqProofs only [go_sem, seval]
  (with_reducible and_intros)<;>first|exact .dq|omega|skip
  refine CallN.pure hK ?_
  simp -implicitDefEqProofs only [go_sem, seval, kindW_len]
  refine LoopK.walk (S := Unit) 22 [2, 4, 15, 16] [48] (fun i _ => [(17, .int .i64 i)]) (fun _ _ => []) (fun i _ => ∀ j < i, kindW.getD j [] ≠ w) () (by intro j hj; omega) ?_ ?_ ?_
  · simp -implicitDefEqProofs only [go_sem, seval] <;> simp
  · intro i _ hi _ hwi hI
    have hdi : decide ((i : Int) < 22) = true := decide_eq_true (by omega)
    have hm := txtsB_at kindW (i := i) hi
    have hg : kindW.getD i [] = kindW[i]'hi := by rw [List.getD, List.getElem?_eq_getElem hi]; rfl
    have hw1 : IntKind.wrap .i64 ((i : Int) + 1) = (i : Int) + 1 := by rw [hwi]; omega
    by_cases hx : kindW[i]'hi = w
    case neg =>
      have hb : ((B (kindW[i]'hi)).toList == (B w).toList) = false := by rw [B_lst, B_lst, beq_eq_false_iff_ne]; exact hx
      simp -implicitDefEqProofs only [go_sem, seval, kindW_len, hdi, hm, hw0, bne, hb, List.length_cons]
      (with_reducible and_intros)<;>first|exact .dq|omega|skip
      refine RoundK.step () hi (by
        intro j hj
        rcases Nat.lt_or_ge j i with h | h
        · exact hI j h
        · rw [show j = i by omega, hg]; exact hx) ?_
      simp -implicitDefEqProofs only [go_sem, seval, hwi]
    case pos =>
      have hb : ((B (kindW[i]'hi)).toList == (B w).toList) = true := by rw [B_lst, B_lst, beq_iff_eq]; exact hx
      simp -implicitDefEqProofs only [go_sem, seval, kindW_len, hdi, hm, hw0, bne, hb, List.length_cons, hw1]
      (with_reducible and_intros)<;>first|exact .dq|omega|skip
      have hkk : kindOf w = some i := kindOf_first hi hI (by rw [hg]; exact hx)
      have hnone2 : ∀ n, (placeL i).length = n → ws.length ≠ n → R = none := fun n hn hne => by
        rw [hR0, hkk]
        cases q : numsOf ws with
        | none => rfl
        | some ns =>
          have := numsOf_len q
          simp only
          rw [if_neg (by omega)]
      with_reducible refine SemK.buildPtr (zc := [.nilp]) (cs := [.addr 128 0, .addr 128 1]) ty50 (by simp -implicitDefEqProofs only [go_sem, seval]) ?_ ?_ (by decide) ?_ (by decide) ?_ ?_
      · rfl
      · rfl
      · exact fillA _ _ _ rfl
      · rfl
      simp -implicitDefEqProofs only [go_sem, seval]
      refine CallN.genX [] [128] false rfl (by decide) ?_
      simp -implicitDefEqProofs only [go_sem, seval]
      refine CallX.intro (fieldsE i hi (bareC 0 0 i) rfl rfl) (by simp -implicitDefEqProofs only [go_sem, seval]) (by simp -implicitDefEqProofs only [go_sem, seval]) ?_
      rintro hs' d (⟨h0, rfl, rfl⟩ | ⟨h0, N, hN, rfl, rfl⟩)
      · have hn2 : (placeL i).length = 2 := by simp [placeL, h0]
        have eP : [D.addr 128 0, D.addr 128 1] = bufP (adrs 128 (placeL i)) 2 := by simp [placeL, h0, adrs, bufP]
        have hW : IntKind.wrap .i64 3 = 3 := by decide
        have hnone := hnone2 2 hn2
        simp -implicitDefEqProofs only [go_sem, seval]
        (with_reducible and_intros)<;>first|exact .dq|omega|skip
        with_reducible refine SemK.appPtrNil (r := 528) (off := 0) (l := 2) (c := 2) (cs := bufP (adrs 128 (placeL i)) 2) ty50 ty50 ?_ ?_ ?_ ?_ ?_ (by decide) (by decide) (by decide) (by decide) ?_
        · rfl
        · rw [← eP]; rfl
        · rfl
        · rw [bufP_len (by rw [adrs_len]; omega)]; decide
        · intro x hx
          rw [← eP] at hx
          exact adrs_ok 128 [0, 1] x hx
        obtain ⟨P, hP⟩ : ∃ P, P = bufP (adrs 128 (placeL i)) 2 := ⟨_, rfl⟩
        rw [← hP]
        have hPl : P.length = 2 := by rw [hP]; exact bufP_len (by rw [adrs_len]; omega)
        simp -implicitDefEqProofs only [go_sem, seval, txtsB_len, List.length_cons, hW]
        (with_reducible and_intros)<;>first|exact .dq|omega|skip
        by_cases hlen : ws.length = 2
        case neg =>
          have q : (((ws.length + 1 : Nat) : Int) == 3) = false := by rw [beq_eq_false_iff_ne]; omega
          have e : R = none := hnone hlen
          subst e
          rw [show (none : Option (List Int)).getD zeroC = zeroC from rfl, ciz]
          simp -implicitDefEqProofs only [go_sem, seval, hW, bne, q]
        have q : (((ws.length + 1 : Nat) : Int) == 3) = true := by rw [beq_iff_eq]; omega
        simp -implicitDefEqProofs only [go_sem, seval, hW, bne, q]
        (with_reducible and_intros)<;>first|exact .dq|omega|skip
        refine LoopK.walk (S := List Int) (2) [2, 4, 7, 42, 43] [48, 528] (fun j _ => [(44, .int .i64 j)]) (fun j c => [(128, .box (ci c))]) (fun j c => c.length = 17 ∧ ∃ ns, numsOf (ws.take j) = some ns ∧ c = putL (bareC 0 0 i) ((placeL i).take j) ns) (bareC 0 0 i) ⟨rfl, [], rfl, rfl⟩ ?_ ?_ ?_
        · simp -implicitDefEqProofs only [go_sem, seval]
          rw [hP]; exact leDL_buf _ _ rfl rfl
        · intro j c hj hdj hwj ⟨hc, ns, hns, hcp⟩
          have hat := bufP_at 128 (placeL i) (2) j (by omega)
          have hof := placeL_at hi (j := j) (by omega)
          have hdj : decide ((j : Int) < 2) = true := hdj
          have hwj' : IntKind.wrap .i64 ((j : Int) + 1) = ((j + 1 : Nat) : Int) := hwj
          have hmw : (txtsB (w :: ws)).getD (j + 1) [] = [.str (B (ws[j]'(by omega)))] := by
            rw [txtsB_at _ (by simp; omega)]; rfl
          have hN := number_spec (ws[j]'(by omega)) (hwl _ (List.getElem_mem _))
          obtain ⟨o, ho⟩ : ∃ o, o = (placeL i).getD j 0 := ⟨_, rfl⟩
          rw [← ho] at hof hat
          rw [← hP] at hat
          have hat1 : (List.drop (0 + j * 1) P).headD .undef = .addr 128 o := by
            rw [Nat.zero_add, Nat.mul_one, List.headD_eq_head?_getD, List.head?_drop, hat]; rfl
          have hat2 : (List.drop (j * 1) P).headD .undef = .addr 128 o := by rw [← hat1, Nat.zero_add]
          have hjw : j < ws.length := by omega
          cases hnum : numOf (ws[j]'(by omega)) with
          | none =>
            have e : R = none := by rw [hR0, hkk, numsOf_at hjw hnum]
            have hN2 : numD (ws[j]'(by omega)) = .tup [.int .i64 0, .bool false] := by unfold numD; rw [hnum]; rfl
            rw [hN2] at hN
            subst e
            rw [show (none : Option (List Int)).getD zeroC = zeroC from rfl, ciz]
            simp -implicitDefEqProofs only [go_sem, seval, hdj, txtsB_len, List.length_cons, hwj, hmw, Int.toNat_natCast, hat1, hat2]
            (with_reducible and_intros)<;>first|exact .dq|omega|skip
            refine CallN.pure hN ?_
            simp -implicitDefEqProofs only [go_sem, seval]
          | some n =>
            have hN2 : numD (ws[j]'(by omega)) = .tup [.int .i64 n, .bool true] := by unfold numD; rw [hnum]; rfl
            rw [hN2] at hN
            have hst := numsOf_app hns hnum
            rw [← List.take_succ_eq_append_getElem hjw] at hst
            have hlns : ns.length = j := by rw [numsOf_len hns]; simp; omega
            have hpt := putL_step (placeL i) (bareC 0 0 i) ns j n (by omega) hlns
            rw [← hcp, ← ho] at hpt
            have hpu := ci_put c o n (by omega)
            simp -implicitDefEqProofs only [go_sem, seval, hdj, txtsB_len, List.length_cons, hwj, hmw, Int.toNat_natCast, hat1, hat2]
            (with_reducible and_intros)<;>first|exact .dq|omega|skip
            refine CallN.pure hN ?_
            simp -implicitDefEqProofs only [go_sem, seval]
            (with_reducible and_intros)<;>first|exact .dq|omega|skip
            have hpv : List.take o (ci c) ++ [D.int IntKind.i64 n] ++ List.drop (o + 1) (ci c) = ci (c.set o n) := hpu
            rw [hpv]
            refine RoundK.step (c.set o n) hj ⟨by simp [hc], ns ++ [n], hst, hpt.symm⟩ ?_
            simp -implicitDefEqProofs only [go_sem, seval, hwj]
            rw [hP]; exact leDL_buf _ _ rfl rfl
        · intro c hdx ⟨hc, ns, hns, hcp⟩
          rw [← hlen, List.take_length] at hns
          have hdx : decide ((2 : Int) < 2) = false := hdx
          have hRc : R = some c := by
            rw [hR0, hkk, hns]
            have := numsOf_len hns
            simp only
            rw [if_pos (by omega), hcp, List.take_of_length_le (by omega)]
          subst hRc
          have htk : List.take 17 (ci c) = ci c := List.take_of_length_le (by rw [ci_len]; omega)
          rw [show (some c : Option (List Int)).getD zeroC = c from rfl]
          simp -implicitDefEqProofs only [go_sem, seval, hdx, htk, hc, List.append_nil]
          exact ci_ok c
      · obtain ⟨n, hn⟩ : ∃ n, n = 2 + (offL i).length := ⟨_, rfl⟩
        have hn2 : (placeL i).length = n := by simp [placeL]; omega
        have hn12 := placeL_len i hi
        have hpos : (offL i).length ≠ 0 := fun h => h0 (List.length_eq_zero_iff.1 h)
        have hW : IntKind.wrap .i64 (1 + (n : Int)) = ((n + 1 : Nat) : Int) := by rw [wr64 (by omega) (by omega)]; omega
        have hnone := hnone2 n hn2
        simp -implicitDefEqProofs only [go_sem, seval]
        (with_reducible and_intros)<;>first|exact .dq|omega|skip
        with_reducible refine SemK.appPtr (r := 528) (off := 0) (l := 2) (c := 2) (r2 := 544) (off2 := 0) (l2 := (offL i).length) (c2 := N) (cs := [.addr 128 0, .addr 128 1]) (cs2 := adrs 128 (offL i)) ty50 ty50 ?_ ?_ ?_ ?_ ?_ ?_ ?_ ?_ (by decide) (by decide) (by omega) ?_ ?_
        · rfl
        · rfl
        · rfl
        · rfl
        · exact Nat.le_refl _
        · rw [adrs_len]; omega
        · exact fun x hx => adrs_ok 128 [0, 1] x hx
        · intro x hx
          exact adrs_ok 128 (offL i) x (List.mem_of_mem_drop (List.mem_of_mem_take hx))
        · intro h; omega
        intro _
        refine ⟨rfl, fun M hM => ?_⟩
        have eQ : bsD [D.addr 128 0, D.addr 128 1] 0 2 ++ bsD (adrs 128 (offL i)) 0 (offL i).length ++ List.replicate (M - (2 + (offL i).length)) .undef = bufP (adrs 128 (placeL i)) M := by
          have e1 : bsD (adrs 128 (offL i)) 0 (offL i).length = adrs 128 (offL i) := by
            unfold bsD
            rw [List.drop_zero, List.take_of_length_le (by rw [adrs_len]; omega)]
          have e2 : bsD [D.addr 128 0, D.addr 128 1] 0 2 = adrs 128 [0, 1] := rfl
          have e3 : adrs 128 (placeL i) = adrs 128 [0, 1] ++ adrs 128 (offL i) := rfl
          rw [e1, e2, e3, ← bufP_new]
          simp only [adrs_len]
          rfl
        rw [eQ, ← hn]
        rw [← hn] at hM
        clear eQ
        obtain ⟨P, hP⟩ : ∃ P, P = bufP (adrs 128 (placeL i)) M := ⟨_, rfl⟩
        rw [← hP]
        have hPl : P.length = M := by rw [hP]; exact bufP_len (by rw [adrs_len]; omega)
        simp -implicitDefEqProofs only [go_sem, seval, txtsB_len, List.length_cons, hW]
        (with_reducible and_intros)<;>first|exact .dq|omega|skip
        by_cases hlen : ws.length = n
        case neg =>
          have q : (((ws.length + 1 : Nat) : Int) == ((n + 1 : Nat) : Int)) = false := by rw [beq_eq_false_iff_ne]; omega
          have e : R = none := hnone hlen
          subst e
          rw [show (none : Option (List Int)).getD zeroC = zeroC from rfl, ciz]
          simp -implicitDefEqProofs only [go_sem, seval, hW, bne, q]
        have q : (((ws.length + 1 : Nat) : Int) == ((n + 1 : Nat) : Int)) = true := by rw [beq_iff_eq]; omega
        simp -implicitDefEqProofs only [go_sem, seval, hW, bne, q]
        (with_reducible and_intros)<;>first|exact .dq|omega|skip
        refine LoopK.walk (S := List Int) n [2, 4, 7, 42, 43] [48, 560] (fun j _ => [(44, .int .i64 j)]) (fun j c => [(128, .box (ci c))]) (fun j c => c.length = 17 ∧ ∃ ns, numsOf (ws.take j) = some ns ∧ c = putL (bareC 0 0 i) ((placeL i).take j) ns) (bareC 0 0 i) ⟨rfl, [], rfl, rfl⟩ ?_ ?_ ?_
        · simp -implicitDefEqProofs only [go_sem, seval]
          rw [hP]; exact leDL_buf _ _ rfl rfl
        · intro j c hj hdj hwj ⟨hc, ns, hns, hcp⟩
          have hat := bufP_at 128 (placeL i) M j (by omega)
          have hof := placeL_at hi (j := j) (by omega)
          have hdj : decide ((j : Int) < (n : Int)) = true := hdj
          have hwj' : IntKind.wrap .i64 ((j : Int) + 1) = ((j + 1 : Nat) : Int) := hwj
          have hmw : (txtsB (w :: ws)).getD (j + 1) [] = [.str (B (ws[j]'(by omega)))] := by
            rw [txtsB_at _ (by simp; omega)]; rfl
          have hN := number_spec (ws[j]'(by omega)) (hwl _ (List.getElem_mem _))
          obtain ⟨o, ho⟩ : ∃ o, o = (placeL i).getD j 0 := ⟨_, rfl⟩
          rw [← ho] at hof hat
          rw [← hP] at hat
          have hat1 : (List.drop (0 + j * 1) P).headD .undef = .addr 128 o := by
            rw [Nat.zero_add, Nat.mul_one, List.headD_eq_head?_getD, List.head?_drop, hat]; rfl
          have hat2 : (List.drop (j * 1) P).headD .undef = .addr 128 o := by rw [← hat1, Nat.zero_add]
          have hjw : j < ws.length := by omega
          cases hnum : numOf (ws[j]'(by omega)) with
          | none =>
            have e : R = none := by rw [hR0, hkk, numsOf_at hjw hnum]
            have hN2 : numD (ws[j]'(by omega)) = .tup [.int .i64 0, .bool false] := by unfold numD; rw [hnum]; rfl
            rw [hN2] at hN
            subst e
            rw [show (none : Option (List Int)).getD zeroC = zeroC from rfl, ciz]
            simp -implicitDefEqProofs only [go_sem, seval, hdj, txtsB_len, List.length_cons, hwj, hmw, Int.toNat_natCast, hat1, hat2]
            (with_reducible and_intros)<;>first|exact .dq|omega|skip
            refine CallN.pure hN ?_
            simp -implicitDefEqProofs only [go_sem, seval]
          | some n =>
            have hN2 : numD (ws[j]'(by omega)) = .tup [.int .i64 n, .bool true] := by unfold numD; rw [hnum]; rfl
            rw [hN2] at hN
            have hst := numsOf_app hns hnum
            rw [← List.take_succ_eq_append_getElem hjw] at hst
            have hlns : ns.length = j := by rw [numsOf_len hns]; simp; omega
            have hpt := putL_step (placeL i) (bareC 0 0 i) ns j n (by omega) hlns
            rw [← hcp, ← ho] at hpt
            have hpu := ci_put c o n (by omega)
            simp -implicitDefEqProofs only [go_sem, seval, hdj, txtsB_len, List.length_cons, hwj, hmw, Int.toNat_natCast, hat1, hat2]
            (with_reducible and_intros)<;>first|exact .dq|omega|skip
            refine CallN.pure hN ?_
            simp -implicitDefEqProofs only [go_sem, seval]
            (with_reducible and_intros)<;>first|exact .dq|omega|skip
            have hpv : List.take o (ci c) ++ [D.int IntKind.i64 n] ++ List.drop (o + 1) (ci c) = ci (c.set o n) := hpu
            rw [hpv]
            refine RoundK.step (c.set o n) hj ⟨by simp [hc], ns ++ [n], hst, hpt.symm⟩ ?_
            simp -implicitDefEqProofs only [go_sem, seval, hwj]
            rw [hP]; exact leDL_buf _ _ rfl rfl
        · intro c hdx ⟨hc, ns, hns, hcp⟩
          rw [← hlen, List.take_length] at hns
          have hdx : decide ((n : Int) < (n : Int)) = false := hdx
          have hRc : R = some c := by
            rw [hR0, hkk, hns]
            have := numsOf_len hns
            simp only
            rw [if_pos (by omega), hcp, List.take_of_length_le (by omega)]
          subst hRc
          have htk : List.take 17 (ci c) = ci c := List.take_of_length_le (by rw [ci_len]; omega)
          rw [show (some c : Option (List Int)).getD zeroC = c from rfl]
          simp -implicitDefEqProofs only [go_sem, seval, hdx, htk, hc, List.append_nil]
          exact ci_ok c
  · intro _ _ hI
    have hdx : decide (((22 : Nat) : Int) < 22) = false := by decide
    have e : R = none := by rw [hR0, kindOf_none hI]
    subst e
    rw [show (none : Option (List Int)).getD zeroC = zeroC from rfl, ciz]
    simp -implicitDefEqProofs only [go_sem, seval, hdx]
end Go.Proofs.YtdklpddmplflgaaDoor
