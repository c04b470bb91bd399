/- Operations that only compute or read do what AbcOps says: all of them; no theorem of a claim. -/
import Derived.Test.YtdklpddmplflgaaDoorAbcPure
set_option linter.unusedSimpArgs false
set_option linter.unusedVariables false
namespace Go.Abs

section
variable {P : Program} {w0 w w' : World} {l0 : Nat → Option Nat} {G : Nat → Option (Nat × Nat)} {S0 : Nat → Option Value} {lev lev' own own' : Nat → Option Nat} {S S' : Nat → Option Value} {env env' : Env} {tm tm' : Nat → Value}

theorem run_indexAt_hd {V : Cx} {t : TypeId} {z by_ : Nat} {ea : Bool} (ht : tyT P t = .slice z by_ ea) {ad : Addr} {len cap : Nat} {i : Value} {k : IntKind} {n : Int} (hi : RepV V i (.int k n)) (h0 : 0 ≤ n) (h1 : n < len) :
    (Instr.indexAt t (.slice (some ad) len cap) i).run P w = .ok (.pointer (some (ad.add (n.toNat * z)))) w := by
  obtain ⟨e, inf, hu, hl, hin, hb, hz, _⟩ := tyT_slice ht
  rw [hi.int_inv]
  simp [Instr.indexAt, Sem.run_bind, asIntOf, run_und hu, h0, h1, run_lsize hl, Sem.run, pure]

theorem ld_own (h : Inv w0 l0 G S0 w lev own S env tm) {t : TypeId} {l : Lay} (hl : layT P t = some l) {x : Value} {d : D} (hx : RepV (cx w lev S) x d) (ok : ldOk env l d) :
    ∃ u, (Instr.loadAt t x).run P w = .ok u w ∧ RepV (cx w lev S) u (ldV env l d) := by
  cases d <;> simp only [ldOk] at ok
  · rename_i cs
    obtain ⟨h1, h2, h3⟩ := ok
    exact run_ld_eaddr (fun _ _ => vis_cell) hl hx h1 h2 h3
  · rename_i r off
    cases ho : env.o r <;> rw [ho] at ok <;> simp only [ldBOk] at ok
    rename_i cs
    obtain ⟨h1, h2, h3⟩ := ok
    obtain ⟨a, hS, rfl⟩ := hx.addr_inv
    have := run_ld_cells (P := P) (w := w) (V := cx w lev S) hl (a := a) (h.box_cells ho hS) h1 h2 h3
    simpa [ldV, ho, ldB] using this
  · rename_i r z i k
    cases ho : env.o r <;> rw [ho] at ok <;> simp only [ldWOk] at ok
    rename_i z' rows
    obtain ⟨rfl, h1, h2, h3, h4⟩ := ok
    obtain ⟨a, len, cap, hS, rfl⟩ := hx.oaddr_inv
    obtain ⟨a', cap', hS', _, hpm, hrl, _, hc⟩ := h.own_head ho
    simp only [cx] at hS
    rw [hS] at hS'
    cases hS'
    have hrow : rows.getD i [] = rows[i] := by simp [List.getD, h1]
    have hz := hrl _ (List.getElem_mem h1)
    have := run_ld_cells (P := P) (w := w) (V := cx w lev S) hl (a := a.add (i * z')) (cs := rows[i]) (o := k) (fun j d hj => by
      rw [add_add]
      exact hc a rfl i j _ d (List.getElem?_eq_getElem h1) hj) (by omega) h3 h4
    rw [add_add] at this
    simp only [ldV, ho, ldW]
    rw [hrow]
    exact this

theorem pure_run {a : Act} (h : Inv w0 l0 G S0 w lev own S env (tmOf a.tmps)) (o : Oper) (ok : pureOk P env o.op) :
    ∃ u, (execOp a.eval o).run P w = .ok (.value u) w ∧ RepV (cx w lev S) u (pureV P env o.op) := by
  have hrep : ∀ x, RepV (cx w lev S) (a.eval x) (rd env x) := fun x => h.opd a rfl x
  have hV : ∀ ad v, vis w lev ad = some v → w.cell? ad = some v := fun ad v => vis_cell
  have hOwn : ∀ r z rows, env.o r = .own z rows → ∃ a cap, S r = some (.slice a rows.length cap) ∧ rows.length ≤ cap ∧ (a = none → rows = [] ∧ cap = 0) := by
    intro r z rows ho
    obtain ⟨a, cap, h1, h2, _, _, h3, _⟩ := h.own_head ho
    exact ⟨a, cap, h1, h2, h3⟩
  cases ho : o.op <;> rw [ho] at ok <;> (try exact ok.elim) <;> simp only [execOp, ho]
  case move x => exact ⟨a.eval x, rfl, hrep x⟩
  case assign x => exact ⟨a.eval x, rfl, hrep x⟩
  case pick c x y =>
    simp only [pureOk] at ok
    have hb := hrep c
    cases hc : rd env c <;> rw [hc] at ok hb <;> try exact ok.elim
    rename_i p
    have hv := hb.bool_inv
    refine ⟨if p then a.eval x else a.eval y, ?_, ?_⟩
    · simp [hv, asBool, Sem.run_bind, Sem.run, pure]
    · simp only [pureV, hc]
      cases p
      · exact hrep y
      · exact hrep x
  case binOp op t x y yt =>
    simp only [pureOk] at ok
    obtain ⟨u, hr, hu⟩ := run_binOpX (hrep x) (hrep y) ok w
    have hg := run_eqGuardX (hrep x) (hrep y) ok w
    exact ⟨u, run_v (by simp [Sem.run_bind, hg, hr]), hu⟩
  case unOp op t x =>
    simp only [pureOk] at ok
    obtain ⟨u, hr, hu⟩ := run_unary (hrep x) ok w
    exact ⟨u, run_v hr, hu⟩
  case convert s d x =>
    simp only [pureOk] at ok
    obtain ⟨u, hr, hu⟩ := run_convert (hrep x) ok w
    exact ⟨u, run_v hr, hu⟩
  case fieldAddr t x f =>
    simp only [pureOk] at ok
    simp only [pureV]
    cases ht : tyT P t <;> rw [ht] at ok <;> try exact ok.elim
    rename_i fs
    simp only at ok ⊢
    have hr0 := hrep x
    cases hx : rd env x <;> rw [hx] at ok hr0 <;> try exact ok.elim
    · rename_i cs
      obtain ⟨u, hr, hu⟩ := run_faV (w := w) ht ok hr0
      exact ⟨u, run_v hr, hu⟩
    · rename_i r off
      obtain ⟨ad, hS, hv⟩ := hr0.addr_inv
      rw [hv]
      refine ⟨_, run_v (run_fieldAt ht ok), ?_⟩
      rw [add_add]
      exact .addr r _ ad hS
    · rename_i r z i k
      obtain ⟨ad, len, cap, hS, hv⟩ := hr0.oaddr_inv
      rw [hv]
      refine ⟨_, run_v (run_fieldAt ht ok), ?_⟩
      rw [add_add, Nat.add_assoc]
      exact .oaddr r z i _ ad len cap hS
  case field t x f =>
    simp only [pureOk] at ok
    simp only [pureV]
    cases ht : tyT P t <;> rw [ht] at ok <;> try exact ok.elim
    rename_i fs
    simp only at ok ⊢
    have hr0 := hrep x
    cases hx : rd env x <;> rw [hx] at ok hr0 <;> try exact ok.elim
    obtain ⟨u, hr, hu⟩ := run_field (w := w) ht hr0 ok
    exact ⟨u, run_v hr, hu⟩
  case indexAddr t x i =>
    simp only [pureOk] at ok
    simp only [pureV]
    have r1 := hrep x
    have r2 := hrep i
    cases hx : rd env x <;> rw [hx] at ok r1 <;> (try (simp only [iaOk] at ok; done)) <;> cases hi : rd env i <;> rw [hi] at ok r2 <;> (try (simp only [iaOk] at ok; done)) <;> simp only [iaOk] at ok
    · rename_i z rows k n
      obtain ⟨ht, h0, h1⟩ := ok
      cases hty : tyT P t <;> rw [hty] at ht <;> try exact ht.elim
      have ht' : z = _ := ht
      subst ht'
      obtain ⟨u, hr, hu⟩ := run_indexAt_slice (w := w) hty r1 r2 h0 h1
      exact ⟨u, run_v hr, hu⟩
    · rename_i cs k n
      cases hty : tyT P t <;> rw [hty] at ok <;> try exact ok.elim
      rename_i m z ea
      obtain ⟨h0, h1⟩ := ok
      obtain ⟨ad, hv, hn, hc⟩ := r1.eaddr_inv
      rw [hv]
      refine ⟨_, run_v (run_indexAt_arr hty r2 h0 h1), ?_⟩
      simp only [iaV]
      refine repV_eaddr (fun d hd => hn d (List.mem_of_mem_drop hd)) ?_
      intro j d hj
      rw [List.getElem?_drop] at hj
      rw [add_add]
      exact hc _ d hj
    · rename_i r k n
      obtain ⟨h0, ok⟩ := ok
      cases hty : tyT P t <;> rw [hty] at ok <;> try exact ok.elim
      rename_i z by_ ea
      simp only at ok
      cases ho' : env.o r <;> rw [ho'] at ok <;> simp only [ownIs] at ok
      rename_i z' rows
      obtain ⟨rfl, h1⟩ := ok
      obtain ⟨ad, cap, hS, _, hnone⟩ := hOwn r z' rows ho'
      obtain ⟨hS', _⟩ := r1.ref_inv
      simp only [cx] at hS'
      rw [hS] at hS'
      have hv : a.eval x = .slice ad rows.length cap := (Option.some.inj hS').symm
      cases ad with
      | none => rw [(hnone rfl).1] at h1; simp at h1; omega
      | some ad =>
        rw [hv]
        refine ⟨_, run_v (run_indexAt_hd hty r2 h0 h1), ?_⟩
        simp only [iaV]
        exact .oaddr r z' n.toNat 0 ad _ _ hS
    · rename_i r off k n
      cases hty : tyT P t <;> rw [hty] at ok <;> try exact ok.elim
      rename_i m z ea
      obtain ⟨h0, h1⟩ := ok
      obtain ⟨ad, hS, hv⟩ := r1.addr_inv
      rw [hv]
      refine ⟨_, run_v (run_indexAt_arr hty r2 h0 h1), ?_⟩
      simp only [iaV]
      rw [add_add]
      exact .addr r _ ad hS
    · rename_i r z j k' k n
      cases hty : tyT P t <;> rw [hty] at ok <;> try exact ok.elim
      rename_i m z' ea
      obtain ⟨h0, h1⟩ := ok
      obtain ⟨ad, len, cap, hS, hv⟩ := r1.oaddr_inv
      rw [hv]
      refine ⟨_, run_v (run_indexAt_arr hty r2 h0 h1), ?_⟩
      simp only [iaV]
      rw [add_add, Nat.add_assoc]
      exact .oaddr r z j _ ad len cap hS
    · rename_i r z lo len k n
      obtain ⟨ht, h0, h1⟩ := ok
      cases hty : tyT P t <;> rw [hty] at ht <;> try exact ht.elim
      have ht' : z = _ := ht
      subst ht'
      obtain ⟨ad, a', L, cap, cap', hS, hv, h3, h4, _⟩ := r1.osub_inv
      obtain ⟨b, rfl, rfl⟩ := h3 (by omega)
      rw [hv]
      refine ⟨_, run_v (run_indexAt_hd hty r2 h0 h1), ?_⟩
      simp only [iaV]
      rw [add_add, ← Nat.add_mul]
      have := RepV.oaddr (C := cx w lev S) r z (lo + n.toNat) 0 b _ _ hS
      simpa using this
    · rename_i r off z len bcap k n
      obtain ⟨ht, h0, h1⟩ := ok
      cases hty : tyT P t <;> rw [hty] at ht <;> try exact ht.elim
      have ht' : z = _ := ht
      subst ht'
      obtain ⟨ad, a', cap', hS, hv, h3, h4, _⟩ := r1.bsub_inv
      rw [h3 (by omega)] at hv
      rw [hv]
      refine ⟨_, run_v (run_indexAt_hd hty r2 h0 h1), ?_⟩
      simp only [iaV]
      rw [add_add]
      exact .addr r _ ad hS
  case index t x i =>
    simp only [pureOk] at ok
    simp only [pureV]
    suffices hs : ∃ u, (Instr.index t (a.eval x) (a.eval i)).run P w = .ok u w ∧ RepV (cx w lev S) u (ixV (tyT P t) (rd env x) (rd env i)) by
      obtain ⟨u, hr, hu⟩ := hs
      exact ⟨u, run_v hr, hu⟩
    have r1 := hrep x
    have r2 := hrep i
    cases hx : rd env x <;> rw [hx] at ok r1 <;> (try (simp only [ixOk] at ok; done)) <;> cases hi : rd env i <;> rw [hi] at ok r2 <;> (try (simp only [ixOk] at ok; done))
    · obtain ⟨ht, h0, h1⟩ := ok
      exact run_index_str (w := w) ht r1 r2 h0 h1
    · rename_i cs k n
      simp only [ixOk] at ok
      cases hty : tyT P t <;> rw [hty] at ok <;> try exact ok.elim
      obtain ⟨h0, h1, h2⟩ := ok
      exact run_index_arr (w := w) hty r1 r2 h0 h1 h2
  case load t x =>
    simp only [pureOk] at ok
    simp only [pureV]
    cases hl : layT P t with
    | none => rw [hl] at ok; exact ok.elim
    | some l =>
      rw [hl] at ok
      obtain ⟨u, hr, hu⟩ := ld_own h hl (hrep x) ok
      exact ⟨u, run_v hr, hu⟩
  case nilCheck x =>
    simp only [pureOk] at ok
    simp only [pureV]
    have hr := hrep x
    cases hx : rd env x <;> rw [hx] at ok hr <;> try exact ok.elim
    · obtain ⟨vs, hv, _⟩ := hr.fn_inv
      rw [hv] at hr ⊢
      exact ⟨_, rfl, hr⟩
    · obtain ⟨ad, hv, _⟩ := hr.eaddr_inv
      rw [hv] at hr ⊢
      exact ⟨_, rfl, hr⟩
    · obtain ⟨ad, _, hv⟩ := hr.addr_inv
      rw [hv] at hr ⊢
      exact ⟨_, rfl, hr⟩
    · obtain ⟨ad, _, _, _, hv⟩ := hr.oaddr_inv
      rw [hv] at hr ⊢
      exact ⟨_, rfl, hr⟩
  case extract x i =>
    simp only [pureOk] at ok
    simp only [pureV]
    have r1 := hrep x
    cases hx : rd env x <;> rw [hx] at ok r1 <;> try exact ok.elim
    rename_i ds
    obtain ⟨vs, hv, hs, hc⟩ := r1.tup_inv
    simp only at ok ⊢
    have hlt : i < vs.size := by omega
    have hex : (Instr.extract (a.eval x) i).run P w = .ok vs[i] w := by simp [hv, Instr.extract, hlt, Sem.run, pure]
    refine ⟨vs[i], run_v hex, ?_⟩
    have hd : ds.getD i .undef = ds[i] := by simp [List.getD, ok]
    rw [hd]
    exact hc i vs[i] ds[i] (by simp [hlt]) (List.getElem?_eq_getElem ok)
  case build t parts =>
    simp only [pureOk] at ok
    obtain ⟨ht, z, hz, hfill⟩ := ok
    simp only [pureV, hz]
    suffices hs : ∃ u, (Instr.build t (parts.map fun x => (x.1, a.eval x.2))).run P w = .ok u w ∧ RepV (cx w lev S) u (.agg (fillD z (buildParts P env t parts.toList))) by
      obtain ⟨u, hr, hu⟩ := hs
      exact ⟨u, run_v hr, hu⟩
    have hzero : ∃ zv, (zeroValue t).run P w = .ok zv w ∧ zv.cells.size = z.length ∧ ∀ (i : Nat) v d, zv.cells[i]? = some v → z[i]? = some d → RepV (cx w lev S) v d := by
      unfold zeroT at hz
      cases hi : P.info? t with
      | none => rw [hi] at hz; cases hz
      | some inf =>
        simp only [hi] at hz
        cases hzv : inf.zero with
        | none => rw [hzv] at hz; cases hz
        | some zv =>
          rw [hzv] at hz
          cases hz
          refine ⟨zv, by simp [zeroValue, Sem.run_bind, run_info hi, hzv, Sem.run, pure], by simp, ?_⟩
          intro i v d hv hd
          simp only [List.getElem?_map] at hd
          have : zv.cells.toList[i]? = some v := by simpa using hv
          rw [this] at hd
          simp at hd
          subst hd
          exact repV_constC v
    obtain ⟨zv, hzr, hzs, hzrep⟩ := hzero
    have hparts : ∀ (pl : Nat → Option (Nat × Nat)), (∀ (k : Nat) p q, parts.toList[k]? = some p → (buildParts P env t parts.toList)[k]? = some q → pl p.1 = some (q.1, q.2.1) ∧ q.2.2 = rd env p.2) → (buildParts P env t parts.toList).length = parts.toList.length →
        ∃ cs', Instr.fill pl zv.cells (parts.map fun x => (x.1, a.eval x.2)).toList = some cs' ∧ RepV (cx w lev S) (.agg cs') (.agg (fillD z (buildParts P env t parts.toList))) := by
      intro pl hpl hlen
      obtain ⟨cs', e1, e2, e3⟩ := run_fill (V := cx w lev S) pl (parts.map fun x => (x.1, a.eval x.2)).toList (buildParts P env t parts.toList) zv.cells z (by simpa using hlen.symm) hzs hzrep (by
        intro k p q hp hq
        simp only [Array.toList_map, List.getElem?_map] at hp
        cases hpk : parts.toList[k]? with
        | none => rw [hpk] at hp; cases hp
        | some p0 =>
          rw [hpk] at hp
          cases hp
          obtain ⟨f1, f2⟩ := hpl k p0 q hpk hq
          exact ⟨f1, by rw [f2]; exact hrep p0.2⟩) hfill
      exact ⟨cs', e1, .agg _ _ e2 e3⟩
    cases hty : tyT P t <;> rw [hty] at ht <;> try exact ht.elim
    · rename_i n z' ea
      obtain ⟨e, hu, hl, hz0⟩ := tyT_arr hty
      obtain ⟨cs', e1, e2⟩ := hparts (fun i => some (i * z', z')) (by
        intro k p q hp hq
        simp only [buildParts, hty, List.getElem?_map, hp, Option.map_some, Option.some.injEq] at hq
        subst hq
        exact ⟨rfl, rfl⟩) (by simp [buildParts, hty])
      refine ⟨.agg cs', ?_, e2⟩
      simp only [Instr.build, Sem.run_bind, hzr, run_und hu, run_lsize hl, Result.andThen_ok, e1]
      rfl
    · rename_i fs
      obtain ⟨fa, hu, hfs⟩ := tyT_struct hty
      obtain ⟨ps, hps, hpg⟩ := placesT (P := P) hfs w
      obtain ⟨cs', e1, e2⟩ := hparts (fun i => ps[i]?) (by
        intro k p q hp hq
        simp only [buildParts, hty, List.getElem?_map, hp, Option.map_some, Option.some.injEq] at hq
        have hlt := ht p (List.mem_of_getElem? hp)
        rw [List.getElem?_eq_getElem hlt] at hq
        subst hq
        refine ⟨?_, rfl⟩
        rw [hpg, List.getElem?_eq_getElem hlt]; rfl) (by simp [buildParts, hty])
      refine ⟨.agg cs', ?_, e2⟩
      simp only [Instr.build, Sem.run_bind, hzr, run_und hu, Result.andThen_ok]
      have hps' : (fa.mapM (fun f => do pure (f.offset, ← sizeOf f.type) : Field → Sem (Nat × Nat))).run P w = .ok ps w := hps
      rw [hps']
      simp only [Result.andThen_ok, e1]
      rfl
  case slice t x lo hi mx =>
    cases mx with
    | none =>
      simp only [pureOk] at ok
      obtain ⟨u, hr, hu⟩ := run_slice (V := cx w lev S) hOwn (hrep x) (rho := a.eval) hrep ok w
      exact ⟨u, run_v hr, hu⟩
    | some m =>
      cases lo with
      | some l => simp only [pureOk] at ok
      | none =>
      cases hi with
      | none => simp only [pureOk] at ok
      | some h1 =>
        simp only [pureOk] at ok
        obtain ⟨ok0, ok1, ok2, ok3⟩ := ok
        have rh := hrep h1
        have rm := hrep m
        cases e1 : rd env h1 <;> rw [e1] at ok2 rh <;> simp only [isZero] at ok2
        cases e2 : rd env m <;> rw [e2] at ok3 rm <;> simp only [isZero] at ok3
        subst ok2; subst ok3
        have hz : ∀ (v : Value) (k : IntKind) (y : Nat) (code : BoundsCode), v = .int k 0 → (Instr.sliceBound v y code).run P w = .ok 0 w := fun v k y code hv => run_sliceBound hv (by omega) (by omega) code w
        have b1 := fun y code => hz _ _ y code rh.int_inv
        have b2 := fun y code => hz _ _ y code rm.int_inv
        have hsl : ∃ ad len cap, a.eval x = .slice ad len cap := by
          have r1 := hrep x
          generalize a.eval x = v at r1
          cases hx : rd env x <;> rw [hx] at ok1 r1 <;> simp only [isSlD] at ok1
          · cases r1; exact ⟨_, _, _, rfl⟩
          · cases r1; exact ⟨_, _, _, rfl⟩
          · obtain ⟨_, _, h, _⟩ := r1.sl_inv; exact ⟨_, _, _, h⟩
          · obtain ⟨_, _, _, _, h⟩ := r1.ref_inv; exact ⟨_, _, _, h⟩
          · obtain ⟨_, _, _, _, _, _, h, _⟩ := r1.osub_inv; exact ⟨_, _, _, h⟩
          · obtain ⟨_, _, _, _, h, _⟩ := r1.bsub_inv; exact ⟨_, _, _, h⟩
        obtain ⟨ad, len, cap, hv⟩ := hsl
        cases hty : tyT P t <;> rw [hty] at ok0 <;> simp only [isSlTy] at ok0
        obtain ⟨el, inf, hu, hlay, hin, hb, hz, _⟩ := tyT_slice hty
        refine ⟨.slice ad 0 0, run_v ?_, .emp _⟩
        rw [hv]
        simp [Instr.sliceAt, Sem.run_bind, run_und hu, Instr.slice, Instr.sliceBounds, b1, b2, run_lsize hlay, Sem.run, pure]
  case makeFunc fn first caps =>
    cases fn <;> simp only [pureOk] at ok
    subst ok
    rename_i f
    refine ⟨.func (.func f) #[] (caps.map a.eval), ?_, ?_⟩
    · exact run_v (by simp [Instr.makeFunc, Sem.run, pure])
    · simp only [pureV]
      refine .fn f _ _ (by simp) ?_
      intro i v x hv hx
      simp only [Array.getElem?_map, List.getElem?_map] at hv hx
      have hc : caps[i]? = caps.toList[i]? := by simp
      rw [hc] at hv
      cases hy : caps.toList[i]? with
      | none => rw [hy] at hv; cases hv
      | some y =>
        rw [hy] at hv hx
        cases hv; cases hx
        exact hrep y
  case call c =>
    simp only [pureOk] at ok
    simp only [pureV]
    cases hcal : c.callee with
    | value f => rw [hcal] at ok; exact ok.elim
    | invoke r m => rw [hcal] at ok; exact ok.elim
    | builtin bi =>
    rw [hcal] at ok
    cases bi <;> try exact ok.elim
    · -- len
      cases hargs : c.args.toList with
      | nil => rw [hargs] at ok; exact ok.elim
      | cons x l1 =>
      cases l1 with
      | cons y l2 => rw [hargs] at ok; exact ok.elim
      | nil =>
      cases htys : c.argTypes.toList with
      | nil => rw [hargs, htys] at ok; exact ok.elim
      | cons t l1 =>
      cases l1 with
      | cons y l2 => rw [hargs, htys] at ok; exact ok.elim
      | nil =>
      rw [hargs, htys] at ok
      simp only at ok ⊢
      have e1 := list1 hargs
      have e2 := list1 htys
      obtain ⟨u, hr, hu⟩ := run_len (P := P) (w := w) (ty := o.type) (V := cx w lev S) (fun r z rows ho => by obtain ⟨a, c, h1, _⟩ := hOwn r z rows ho; exact ⟨a, c, h1⟩) (hrep x) ok
      refine ⟨u, ?_, hu⟩
      have hm : c.args.map a.eval = #[a.eval x] := by rw [e1]; simp
      simp only [resolve, hcal, Sem.run_bind, pure, Sem.run, Result.andThen_ok, invoke, builtin, hm, e2, hr]
    · obtain ⟨hne, hi⟩ := ok
      simp only
      cases hl : c.args.toList with
      | nil => exact (hne hl).elim
      | cons x l' =>
        rw [hl] at hi
        simp only [List.map_cons] at hi ⊢
        have r1 := hrep x
        cases hx : rd env x <;> rw [hx] at hi r1 <;> try exact hi.elim
        rename_i k n
        obtain ⟨u, hr, hu, k', n', hk⟩ := run_max (P := P) (w := w) (V := cx w lev S) (l'.map a.eval) (l'.map (rd env)) (a.eval x) (.int k n) r1 ⟨_, _, rfl⟩ (by simp) (by
          intro i v e hv he
          simp only [List.getElem?_map] at hv he
          cases hy : l'[i]? with
          | none => rw [hy] at hv; cases hv
          | some y =>
            rw [hy] at hv he
            cases hv; cases he
            exact hrep y) hi
        refine ⟨u, ?_, hu⟩
        have hm : (c.args.map a.eval).toList = a.eval x :: l'.map a.eval := by simp [hl]
        simp only [resolve, hcal, Sem.run_bind, pure, Sem.run, Result.andThen_ok, invoke, builtin, Builtin.max_, hm, hr]
    · obtain ⟨hne, hi⟩ := ok
      simp only
      cases hl : c.args.toList with
      | nil => exact (hne hl).elim
      | cons x l' =>
        rw [hl] at hi
        simp only [List.map_cons] at hi ⊢
        have r1 := hrep x
        cases hx : rd env x <;> rw [hx] at hi r1 <;> try exact hi.elim
        rename_i k n
        obtain ⟨u, hr, hu, k', n', hk⟩ := run_min (P := P) (w := w) (V := cx w lev S) (l'.map a.eval) (l'.map (rd env)) (a.eval x) (.int k n) r1 ⟨_, _, rfl⟩ (by simp) (by
          intro i v e hv he
          simp only [List.getElem?_map] at hv he
          cases hy : l'[i]? with
          | none => rw [hy] at hv; cases hv
          | some y =>
            rw [hy] at hv he
            cases hv; cases he
            exact hrep y) hi
        refine ⟨u, ?_, hu⟩
        have hm : (c.args.map a.eval).toList = a.eval x :: l'.map a.eval := by simp [hl]
        simp only [resolve, hcal, Sem.run_bind, pure, Sem.run, Result.andThen_ok, invoke, builtin, Builtin.min_, hm, hr]
end
end Go.Abs
