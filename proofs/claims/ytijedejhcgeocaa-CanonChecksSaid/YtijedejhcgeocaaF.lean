/-
  Texts of this seat.
-/
import Derived.Test.YtijedejhcgeocaaE
import Derived.KernelRfl
import Derived.Test.YtijedejhcgeocaaProg
import Derived.Test.YtijedejhcgeocaaRows
import Derived.Test.YtijedejhcgeocaaC
namespace Go.Ab
open Go
set_option linter.unusedVariables false
set_option linter.unusedSimpArgs false
set_option maxRecDepth 10000
set_option maxHeartbeats 4000000

variable {K : HCalls} {C : Calls'}

theorem loop2 (hk : ∀ ws st, K 96 ws st = .none) (st : HSt) (c0 : PV) (cs1 csS : List PV) (okS : Shape → Bool) (P : Shape → Nat → Bool) (o97 o98 : List PV)
    (c97 : ∀ x : Shape, C 97 [.agg [.int .i64 x.Slots, .int .i64 x.Mask]] = some (.int .i64 (if okS x = true then 0 else 16), o97))
    (c98 : ∀ (x : Shape), okS x = true → ∀ (i : Nat), C 98 [.agg [.int .i64 x.Slots, .int .i64 x.Mask], .int .i64 i] = some (.bool (P x i), o98))
    (Z : List (Shape × List Int)) (hN1 : Z.length < 140737488355328)
    (hZ : ∀ (j : Nat) (x : Shape) (l : List Int), Z[j]? = some (x, l) → (cs1.drop (j * 2)).take 2 = [.int .i64 x.Slots, .int .i64 x.Mask] ∧ l.length < 140737488355328 ∧
      ∃ cs, (csS.drop j).take 1 = [.sl l.length cs] ∧ ∀ i v, l[i]? = some v → (cs.drop i).take 1 = [.int .i64 v]) :
    ∀ (k j : Nat) (most : Int) (g : HSt), Z.length - j = k → j ≤ Z.length →
      match outr okS P j most (Z.drop j) with
      | .next m' => ∃ g', Run C K TH (.loop h45l2 [1, 3, 4, 33, 34, 35]) (env2 st.length cs1 Z.length j, hp45 st c0 Z.length cs1 csS most g) (.exit 2) ([(1, .ptr st.length 0), (3, .ptr (st.length + 1) 0)], hp45 st c0 Z.length cs1 csS m' g')
      | .stop c => ∃ g' m', Run C K TH (.loop h45l2 [1, 3, 4, 33, 34, 35]) (env2 st.length cs1 Z.length j, hp45 st c0 Z.length cs1 csS most g) .ret ([(2, .p (.int .i64 c))], hp45 st c0 Z.length cs1 csS m' g') := by
  intro k
  induction k with
  | zero =>
    intro j most g hk' hj
    have hlt : ¬ j < Z.length := by omega
    rw [List.drop_eq_nil_of_le (by omega)]
    simp only [outr]
    refine ⟨g, Run.loopX (Run.of 40 ?_) (by simp)⟩
    simp (config := { maxSteps := 4000000 }) [↓evP_callC, ↓oel_some, ↓oel_none, ↓bel_true, ↓bel_false, ↓hvel_true, ↓hvel_false, ↓exel_norm, ↓exel_ret, ↓exel_exit, ↓retel_norm, ↓retel_ret, oel_some, oel_none, bel_true, bel_false, hvel_true, hvel_false, exel_norm, exel_ret, exel_exit, retel_norm, retel_ret, fgtH_norm, fgtH_ret, fgtH_exit, blkel_norm, blkel_ret, blkel_exit, get_nil, get_cons, set_nil, set_cons, keep_nil, keep_cons, params_nil, params_cons, lookHG_t, lookHG_k, lookHG_f, alG, lookPG_t, lookPG_k, lookPG_f, wantsE_none, wantsE_some, wantB_bool, wantB_skip, stepsH_nil, stepsH_cons, stepH_eq, stepHL_eq, evHP_x, evHP_bm, evHP_snil, evHP_slc0, evHP_copy, evHC_skip, evHC_ret, evHC_exit, evHC_reg, evHC_regD, evHC_seq, evHC_cond, evHC_block, HOp.temps, HOp.opds, XOp.opds, optO, tempsO, hland, land1, evHX, evHV, evHN, evP, evHS, toP, vis, PV.loose, noOwn, noOwnL, refs, refsL, fresh, al, alL, fr_none, fr_bool, fr_int, fr_str, fr_nilp, fr_nils, fr_nilf, fr_sl, fr_sp, fr_ref, fr_view, fr_box, fr_own, fr_agg, fr_tup, fr_fn, setH, pvBin, intBin, fillH, fillP, PV.lok, cellsH, cells, HV.one, partsO, mkAgg, mkTup, allP, setCellsH, blkCells, partH, resHL, resH1, resT, tupHOf, slElems, bnd, idxOk, pvPeq, pvBeq, pvUn, mkOwn, rep, lendL, lend, lend1, lend1L, PV.flat, PV.flat1, lent, PV.isView, getElem?_len, getElem?_len0, set_len0, set_len, lim, part, norm1, slCells, h45l2, env2, hp45, hlt, len_app]
  | succ k ih =>
    intro j most g hk' hj
    have hlt : j < Z.length := by omega
    obtain ⟨⟨x, l⟩, hv⟩ : ∃ v, Z[j]? = some v := ⟨Z[j], List.getElem?_eq_getElem hlt⟩
    have e1 : Z.drop j = (x, l) :: Z.drop (j + 1) := by
      rw [List.drop_eq_getElem_cons hlt]
      congr 1
      rw [List.getElem?_eq_getElem hlt] at hv
      exact Option.some.inj hv
    obtain ⟨h1, hl, cs, h2, hcs⟩ := hZ j x l hv
    have it := iter2 (K := K) (C := C) hk st c0 Z.length hN1 cs1 csS okS P o97 o98 c97 c98 j hlt x l hl cs hcs h1 h2 most g
    rw [e1]
    simp only [outr]
    by_cases ha : okS x = false ∨ (l.length : Int) ≠ x.Slots
    · rw [if_pos ha] at it ⊢
      obtain ⟨g', m', hr⟩ := it
      exact ⟨g', m', Run.loopX hr (by simp)⟩
    · rw [if_neg ha] at it ⊢
      by_cases hb : most ≤ (j : Int)
      · rw [if_pos hb] at it ⊢
        obtain ⟨g', m', hr⟩ := it
        exact ⟨g', m', Run.loopX hr (by simp)⟩
      · rw [if_neg hb] at it ⊢
        cases hs : slo (P x) 0 most l with
        | none =>
          rw [hs] at it
          obtain ⟨g', m', hr⟩ := it
          exact ⟨g', m', Run.loopX hr (by simp)⟩
        | some m1 =>
          rw [hs] at it
          obtain ⟨g1, hr⟩ := it
          have hr2 := ih (j + 1) m1 g1 (by omega) (by omega)
          simp only
          cases ho : outr okS P (j + 1) m1 (Z.drop (j + 1)) with
          | next m' =>
            rw [ho] at hr2
            obtain ⟨g', hr2⟩ := hr2
            exact ⟨g', Run.loopN hr hr2⟩
          | stop c =>
            rw [ho] at hr2
            obtain ⟨g', m', hr2⟩ := hr2
            exact ⟨g', m', Run.loopN hr hr2⟩

def chk (okS : Shape → Bool) (P : Shape → Nat → Bool) (f : Form) : Int :=
  if f.Shapes.length ≠ f.Slots.length then 13 else
  match nxs 0 f.Roots with
  | .none => 19
  | some m => match outr okS P 0 m (f.Shapes.zip f.Slots) with
    | .stop c => c
    | .next m' => if m' ≠ (f.Shapes.length : Int) then 20 else 0

theorem cint_at {k : IntKind} : ∀ (l : List Int) (i : Nat) (v : Int), l[i]? = some v → ((l.flatMap (cint k)).drop i).take 1 = [.int k v]
  | [], i, v, h => by simp at h
  | a :: l, 0, v, h => by simp at h; subst h; simp [cint]
  | a :: l, i + 1, v, h => by
    have := cint_at (k := k) l i v (by simpa using h)
    simpa [cint] using this
theorem cShape_at : ∀ (l : List Shape) (i : Nat) (v : Shape), l[i]? = some v → ((l.flatMap cShape).drop (i * 2)).take 2 = [.int .i64 v.Slots, .int .i64 v.Mask]
  | [], i, v, h => by simp at h
  | a :: l, 0, v, h => by simp at h; subst h; simp [cShape]
  | a :: l, i + 1, v, h => by
    have := cShape_at l i v (by simpa using h)
    rw [show (i + 1) * 2 = i * 2 + 1 + 1 by omega]
    simpa [cShape] using this
theorem csl_at {k : IntKind} : ∀ (l : List (List Int)) (i : Nat) (v : List Int), l[i]? = some v → ((l.flatMap (csl (cint k))).drop i).take 1 = [.sl v.length (v.flatMap (cint k))]
  | [], i, v, h => by simp at h
  | a :: l, 0, v, h => by simp at h; subst h; simp [csl]
  | a :: l, i + 1, v, h => by
    have := csl_at (k := k) l i v (by simpa using h)
    simpa [csl] using this

theorem ans45 (hk : ∀ ws st, K 96 ws st = .none) (hk45 : ∀ ws st, K 45 ws st = .none) (st : HSt) (okS : Shape → Bool) (P : Shape → Nat → Bool) (o97 o98 : List PV)
    (c97 : ∀ x : Shape, C 97 [.agg [.int .i64 x.Slots, .int .i64 x.Mask]] = some (.int .i64 (if okS x = true then 0 else 16), o97))
    (c98 : ∀ (x : Shape), okS x = true → ∀ (i : Nat), C 98 [.agg [.int .i64 x.Slots, .int .i64 x.Mask], .int .i64 i] = some (.bool (P x i), o98))
    (f : Form) (hr : f.Roots.length < 140737488355328) (hs : f.Shapes.length < 140737488355328) (hl : ∀ l ∈ f.Slots, l.length < 140737488355328) :
    ∃ n0 g', ∀ n, n0 + 100 ≤ n → evHF C K TH n 45 [.p (.agg (cForm f))] st = some (.p (.int .i64 (chk okS P f)), st ++ g') := by
  have hin : ∀ n0 (r : Option (HV × HSt)), retel (evHC C (evHF C K TH (n0 + 99)) (n0 + 99) h45.body (paramsH 0 [.p (.agg (cForm f))], st)) (fun s => oel (resHL (hland s (h45.res.map resT)) h45.res) (fun vs => some (tupHOf vs, (hland s (h45.res.map resT)).2)) (fun _ => Option.none)) = r →
      (∃ x, r = some x) → ∀ n, n0 + 100 ≤ n → evHF C K TH n 45 [.p (.agg (cForm f))] st = r := by
    rintro n0 r h ⟨x, rfl⟩ n hn
    exact evHF_mono (show n0 + 99 + 1 ≤ n by omega) _ _ _ _ (evHF_in (n := n0 + 99) hk45 (x := h45) rfl rfl h)
  unfold chk
  by_cases hne : f.Shapes.length = f.Slots.length
  · rw [if_neg (by simpa using hne)]
    have L0 := loop0 (K := K) (C := C) hk f.Roots (f.Roots.flatMap (cint .i64)) (cint_at f.Roots) hr st (.box [.p (.sl f.Roots.length (f.Roots.flatMap (cint .i64))), .p (.sl f.Shapes.length (f.Shapes.flatMap cShape)), .p (.sl f.Slots.length (f.Slots.flatMap (csl (cint .i64))))]) [] f.Roots.length 0 0 (by simp) (by omega)
    rw [List.drop_zero] at L0
    cases h0 : nxs 0 f.Roots with
    | none =>
      obtain ⟨m', hrun⟩ := L0.2 h0
      obtain ⟨n0, hn0⟩ := Run.all hrun
      simp [env0, hne] at hn0
      apply Exists.intro
      apply Exists.intro
      refine hin n0 _ ?_ ⟨_, rfl⟩
      simp (config := { maxSteps := 4000000 }) [↓evP_callC, ↓oel_some, ↓oel_none, ↓bel_true, ↓bel_false, ↓hvel_true, ↓hvel_false, ↓exel_norm, ↓exel_ret, ↓exel_exit, ↓retel_norm, ↓retel_ret, oel_some, oel_none, bel_true, bel_false, hvel_true, hvel_false, exel_norm, exel_ret, exel_exit, retel_norm, retel_ret, fgtH_norm, fgtH_ret, fgtH_exit, blkel_norm, blkel_ret, blkel_exit, get_nil, get_cons, set_nil, set_cons, keep_nil, keep_cons, params_nil, params_cons, lookHG_t, lookHG_k, lookHG_f, alG, lookPG_t, lookPG_k, lookPG_f, wantsE_none, wantsE_some, wantB_bool, wantB_skip, stepsH_nil, stepsH_cons, stepH_eq, stepHL_eq, evHP_x, evHP_bm, evHP_snil, evHP_slc0, evHP_copy, evHC_skip, evHC_ret, evHC_exit, evHC_reg, evHC_regD, evHC_seq, evHC_cond, evHC_block, HOp.temps, HOp.opds, XOp.opds, optO, tempsO, hland, land1, evHX, evHV, evHN, evP, evHS, toP, vis, PV.loose, noOwn, noOwnL, refs, refsL, fresh, al, alL, fr_none, fr_bool, fr_int, fr_str, fr_nilp, fr_nils, fr_nilf, fr_sl, fr_sp, fr_ref, fr_view, fr_box, fr_own, fr_agg, fr_tup, fr_fn, setH, pvBin, intBin, fillH, fillP, PV.lok, cellsH, cells, HV.one, partsO, mkAgg, mkTup, allP, setCellsH, blkCells, partH, resHL, resH1, resT, tupHOf, slElems, bnd, idxOk, pvPeq, pvBeq, pvUn, mkOwn, rep, lendL, lend, lend1, lend1L, PV.flat, PV.flat1, lent, PV.isView, getElem?_len, getElem?_len0, set_len0, set_len, lim, part, norm1, slCells, h45, cForm, hne, hn0]
      all_goals exact rfl
    | some m =>
      obtain ⟨n0, hn0⟩ := Run.all (L0.1 m h0)
      have hz : (f.Shapes.zip f.Slots).length = f.Shapes.length := by simp [hne]
      have L2 := loop2 (K := K) (C := C) hk st (.sl f.Roots.length (f.Roots.flatMap (cint .i64))) (f.Shapes.flatMap cShape) (f.Slots.flatMap (csl (cint .i64))) okS P o97 o98 c97 c98 (f.Shapes.zip f.Slots) (by omega) (fun j x l h => by
        rw [List.getElem?_zip_eq_some] at h
        exact ⟨cShape_at _ _ _ h.1, hl _ (List.mem_of_getElem? h.2), _, csl_at _ _ _ h.2, cint_at l⟩) _ 0 m [] rfl (Nat.zero_le _)
      rw [List.drop_zero, hz] at L2
      cases h2 : outr okS P 0 m (f.Shapes.zip f.Slots) with
      | stop c =>
        rw [h2] at L2
        obtain ⟨g', m', hrun⟩ := L2
        obtain ⟨n1, hn1⟩ := Run.all hrun
        have f0 := fun a b (ha : n0 + n1 ≤ a) (hb : n0 + n1 ≤ b) => hn0 a b (by omega) (by omega)
        have f1 := fun a b (ha : n0 + n1 ≤ a) (hb : n0 + n1 ≤ b) => hn1 a b (by omega) (by omega)
        simp [env0, hne] at f0
        simp [env2, hp45, hne] at f1
        apply Exists.intro
        apply Exists.intro
        refine hin (n0 + n1) _ ?_ ⟨_, rfl⟩
        simp (config := { maxSteps := 4000000 }) [↓evP_callC, ↓oel_some, ↓oel_none, ↓bel_true, ↓bel_false, ↓hvel_true, ↓hvel_false, ↓exel_norm, ↓exel_ret, ↓exel_exit, ↓retel_norm, ↓retel_ret, oel_some, oel_none, bel_true, bel_false, hvel_true, hvel_false, exel_norm, exel_ret, exel_exit, retel_norm, retel_ret, fgtH_norm, fgtH_ret, fgtH_exit, blkel_norm, blkel_ret, blkel_exit, get_nil, get_cons, set_nil, set_cons, keep_nil, keep_cons, params_nil, params_cons, lookHG_t, lookHG_k, lookHG_f, alG, lookPG_t, lookPG_k, lookPG_f, wantsE_none, wantsE_some, wantB_bool, wantB_skip, stepsH_nil, stepsH_cons, stepH_eq, stepHL_eq, evHP_x, evHP_bm, evHP_snil, evHP_slc0, evHP_copy, evHC_skip, evHC_ret, evHC_exit, evHC_reg, evHC_regD, evHC_seq, evHC_cond, evHC_block, HOp.temps, HOp.opds, XOp.opds, optO, tempsO, hland, land1, evHX, evHV, evHN, evP, evHS, toP, vis, PV.loose, noOwn, noOwnL, refs, refsL, fresh, al, alL, fr_none, fr_bool, fr_int, fr_str, fr_nilp, fr_nils, fr_nilf, fr_sl, fr_sp, fr_ref, fr_view, fr_box, fr_own, fr_agg, fr_tup, fr_fn, setH, pvBin, intBin, fillH, fillP, PV.lok, cellsH, cells, HV.one, partsO, mkAgg, mkTup, allP, setCellsH, blkCells, partH, resHL, resH1, resT, tupHOf, slElems, bnd, idxOk, pvPeq, pvBeq, pvUn, mkOwn, rep, lendL, lend, lend1, lend1L, PV.flat, PV.flat1, lent, PV.isView, getElem?_len, getElem?_len0, set_len0, set_len, lim, part, norm1, slCells, h45, cForm, hne, f0, f1, h2]
        all_goals exact rfl
      | next m' =>
        rw [h2] at L2
        obtain ⟨g', hrun⟩ := L2
        obtain ⟨n1, hn1⟩ := Run.all hrun
        have f0 := fun a b (ha : n0 + n1 ≤ a) (hb : n0 + n1 ≤ b) => hn0 a b (by omega) (by omega)
        have f1 := fun a b (ha : n0 + n1 ≤ a) (hb : n0 + n1 ≤ b) => hn1 a b (by omega) (by omega)
        simp [env0, hne] at f0
        simp [env2, hp45, hne] at f1
        by_cases h3 : m' = (f.Slots.length : Int)
        · apply Exists.intro
          apply Exists.intro
          refine hin (n0 + n1) _ ?_ ⟨_, rfl⟩
          simp (config := { maxSteps := 4000000 }) [↓evP_callC, ↓oel_some, ↓oel_none, ↓bel_true, ↓bel_false, ↓hvel_true, ↓hvel_false, ↓exel_norm, ↓exel_ret, ↓exel_exit, ↓retel_norm, ↓retel_ret, oel_some, oel_none, bel_true, bel_false, hvel_true, hvel_false, exel_norm, exel_ret, exel_exit, retel_norm, retel_ret, fgtH_norm, fgtH_ret, fgtH_exit, blkel_norm, blkel_ret, blkel_exit, get_nil, get_cons, set_nil, set_cons, keep_nil, keep_cons, params_nil, params_cons, lookHG_t, lookHG_k, lookHG_f, alG, lookPG_t, lookPG_k, lookPG_f, wantsE_none, wantsE_some, wantB_bool, wantB_skip, stepsH_nil, stepsH_cons, stepH_eq, stepHL_eq, evHP_x, evHP_bm, evHP_snil, evHP_slc0, evHP_copy, evHC_skip, evHC_ret, evHC_exit, evHC_reg, evHC_regD, evHC_seq, evHC_cond, evHC_block, HOp.temps, HOp.opds, XOp.opds, optO, tempsO, hland, land1, evHX, evHV, evHN, evP, evHS, toP, vis, PV.loose, noOwn, noOwnL, refs, refsL, fresh, al, alL, fr_none, fr_bool, fr_int, fr_str, fr_nilp, fr_nils, fr_nilf, fr_sl, fr_sp, fr_ref, fr_view, fr_box, fr_own, fr_agg, fr_tup, fr_fn, setH, pvBin, intBin, fillH, fillP, PV.lok, cellsH, cells, HV.one, partsO, mkAgg, mkTup, allP, setCellsH, blkCells, partH, resHL, resH1, resT, tupHOf, slElems, bnd, idxOk, pvPeq, pvBeq, pvUn, mkOwn, rep, lendL, lend, lend1, lend1L, PV.flat, PV.flat1, lent, PV.isView, getElem?_len, getElem?_len0, set_len0, set_len, lim, part, norm1, slCells, h45, cForm, hne, f0, f1, h2, h3]
          all_goals exact rfl
        · have h4 : (m' != (f.Slots.length : Int)) = true := by simpa using h3
          apply Exists.intro
          apply Exists.intro
          refine hin (n0 + n1) _ ?_ ⟨_, rfl⟩
          simp (config := { maxSteps := 4000000 }) [↓evP_callC, ↓oel_some, ↓oel_none, ↓bel_true, ↓bel_false, ↓hvel_true, ↓hvel_false, ↓exel_norm, ↓exel_ret, ↓exel_exit, ↓retel_norm, ↓retel_ret, oel_some, oel_none, bel_true, bel_false, hvel_true, hvel_false, exel_norm, exel_ret, exel_exit, retel_norm, retel_ret, fgtH_norm, fgtH_ret, fgtH_exit, blkel_norm, blkel_ret, blkel_exit, get_nil, get_cons, set_nil, set_cons, keep_nil, keep_cons, params_nil, params_cons, lookHG_t, lookHG_k, lookHG_f, alG, lookPG_t, lookPG_k, lookPG_f, wantsE_none, wantsE_some, wantB_bool, wantB_skip, stepsH_nil, stepsH_cons, stepH_eq, stepHL_eq, evHP_x, evHP_bm, evHP_snil, evHP_slc0, evHP_copy, evHC_skip, evHC_ret, evHC_exit, evHC_reg, evHC_regD, evHC_seq, evHC_cond, evHC_block, HOp.temps, HOp.opds, XOp.opds, optO, tempsO, hland, land1, evHX, evHV, evHN, evP, evHS, toP, vis, PV.loose, noOwn, noOwnL, refs, refsL, fresh, al, alL, fr_none, fr_bool, fr_int, fr_str, fr_nilp, fr_nils, fr_nilf, fr_sl, fr_sp, fr_ref, fr_view, fr_box, fr_own, fr_agg, fr_tup, fr_fn, setH, pvBin, intBin, fillH, fillP, PV.lok, cellsH, cells, HV.one, partsO, mkAgg, mkTup, allP, setCellsH, blkCells, partH, resHL, resH1, resT, tupHOf, slElems, bnd, idxOk, pvPeq, pvBeq, pvUn, mkOwn, rep, lendL, lend, lend1, lend1L, PV.flat, PV.flat1, lent, PV.isView, getElem?_len, getElem?_len0, set_len0, set_len, lim, part, norm1, slCells, h45, cForm, hne, f0, f1, h2, h3, h4]
          all_goals exact rfl
  · have h4 : ((f.Shapes.length : Int) != (f.Slots.length : Int)) = true := by simp; omega
    rw [if_pos (by simpa using hne)]
    refine ⟨0, ?_⟩
    apply Exists.intro
    refine hin 0 _ ?_ ⟨_, rfl⟩
    simp (config := { maxSteps := 4000000 }) [↓evP_callC, ↓oel_some, ↓oel_none, ↓bel_true, ↓bel_false, ↓hvel_true, ↓hvel_false, ↓exel_norm, ↓exel_ret, ↓exel_exit, ↓retel_norm, ↓retel_ret, oel_some, oel_none, bel_true, bel_false, hvel_true, hvel_false, exel_norm, exel_ret, exel_exit, retel_norm, retel_ret, fgtH_norm, fgtH_ret, fgtH_exit, blkel_norm, blkel_ret, blkel_exit, get_nil, get_cons, set_nil, set_cons, keep_nil, keep_cons, params_nil, params_cons, lookHG_t, lookHG_k, lookHG_f, alG, lookPG_t, lookPG_k, lookPG_f, wantsE_none, wantsE_some, wantB_bool, wantB_skip, stepsH_nil, stepsH_cons, stepH_eq, stepHL_eq, evHP_x, evHP_bm, evHP_snil, evHP_slc0, evHP_copy, evHC_skip, evHC_ret, evHC_exit, evHC_reg, evHC_regD, evHC_seq, evHC_cond, evHC_block, HOp.temps, HOp.opds, XOp.opds, optO, tempsO, hland, land1, evHX, evHV, evHN, evP, evHS, toP, vis, PV.loose, noOwn, noOwnL, refs, refsL, fresh, al, alL, fr_none, fr_bool, fr_int, fr_str, fr_nilp, fr_nils, fr_nilf, fr_sl, fr_sp, fr_ref, fr_view, fr_box, fr_own, fr_agg, fr_tup, fr_fn, setH, pvBin, intBin, fillH, fillP, PV.lok, cellsH, cells, HV.one, partsO, mkAgg, mkTup, allP, setCellsH, blkCells, partH, resHL, resH1, resT, tupHOf, slElems, bnd, idxOk, pvPeq, pvBeq, pvUn, mkOwn, rep, lendL, lend, lend1, lend1L, PV.flat, PV.flat1, lent, PV.isView, getElem?_len, getElem?_len0, set_len0, set_len, lim, part, norm1, slCells, h45, cForm, hne, h4]
    all_goals exact rfl
end Go.Ab

namespace Go.Ab
open Go
set_option linter.unusedVariables false
set_option linter.unusedSimpArgs false
set_option maxRecDepth 10000
set_option maxHeartbeats 4000000

variable {K : HCalls} {C : Calls'}

theorem eqPVL_ints {k : IntKind} : ∀ (l : List Int), eqPVL (l.flatMap (cint k)) (l.flatMap (cint k)) = true
  | [] => rfl
  | a :: l => by have := eqPVL_ints (k := k) l; simp [cint] at this ⊢; simp [eqPVL, eqPV, this]
theorem eqPVL_shapes : ∀ (l : List Shape), eqPVL (l.flatMap cShape) (l.flatMap cShape) = true
  | [] => rfl
  | a :: l => by have := eqPVL_shapes l; simp [cShape] at this ⊢; simp [eqPVL, eqPV, this]
theorem eqPVL_rows {k : IntKind} : ∀ (l : List (List Int)), eqPVL (l.flatMap (csl (cint k))) (l.flatMap (csl (cint k))) = true
  | [] => rfl
  | a :: l => by have := eqPVL_rows (k := k) l; have h2 := eqPVL_ints (k := k) a; simp [csl] at this h2 ⊢; simp [eqPVL, eqPV, this, h2]

theorem ans7 (h7k : ∀ ws st, K 7 ws st = .none) (h45k : ∀ ws st, K 45 ws st = .none) (h96k : ∀ ws st, K 96 ws st = .none) (hw : ∀ st, K 33 [] st = some (.p (.bool true), st))
    (c45 : ∀ ws, C 45 ws = .none) (c33 : ∀ ws, C 33 ws = .none) (okS : Shape → Bool) (P : Shape → Nat → Bool) (o97 o98 : List PV)
    (c97 : ∀ x : Shape, C 97 [.agg [.int .i64 x.Slots, .int .i64 x.Mask]] = some (.int .i64 (if okS x = true then 0 else 16), o97))
    (c98 : ∀ (x : Shape), okS x = true → ∀ (i : Nat), C 98 [.agg [.int .i64 x.Slots, .int .i64 x.Mask], .int .i64 i] = some (.bool (P x i), o98))
    (f g : Form) (hr : f.Roots.length < 140737488355328) (hs : f.Shapes.length < 140737488355328) (hl : ∀ l ∈ f.Slots, l.length < 140737488355328)
    (bf bg same : Bool) (wd : Int) (o1 o2 o3 o4 o5 o6 o7 : List PV)
    (d1 : C 44 [.agg (cForm f)] = some (.bool bf, o1)) (d2 : C 44 [.agg (cForm g)] = some (.bool bg, o2))
    (d3 : C 46 [.agg (cForm f)] = some (.int .i64 (chk okS P f), o3)) (d4 : C 47 [.agg (cForm f), .agg (cForm g)] = some (.bool same, o4)) (d5 : C 40 [.agg (cForm f), .agg (cForm g)] = some (.bool same, o5))
    (d6 : C 48 [.agg (cForm f)] = some (.int .i64 wd, o6)) (d7 : C 49 [.agg (cForm f)] = some (.int .i64 wd, o7)) :
    ∃ n st', evHF C K TH n 7 [.p (.agg (cForm f)), .p (.agg (cForm g))] [] = some (.p (.bool true), st') := by
  have ew : ∀ n st, evHF C K TH (n + 1) 33 [] st = some (.p (.bool true), st) := fun n st => by rw [evHF_eq, hw, oel_some]
  have q1 := eqPVL_ints (k := .i64) f.Roots
  have q2 := eqPVL_shapes f.Shapes
  have q3 := eqPVL_rows (k := .i64) f.Slots
  have q4 := eqPVL_ints (k := .i64) g.Roots
  have q5 := eqPVL_shapes g.Shapes
  have q6 := eqPVL_rows (k := .i64) g.Slots
  simp only [cForm] at d1 d2 d3 d4 d5 d6 d7
  cases bf with
  | false =>
    refine ⟨60, ?_⟩
    apply Exists.intro
    refine evHF_in (n := 59) h7k (x := h7) rfl rfl ?_
    simp (config := { maxSteps := 4000000 }) [↓evP_callC, ↓oel_some, ↓oel_none, ↓bel_true, ↓bel_false, ↓hvel_true, ↓hvel_false, ↓exel_norm, ↓exel_ret, ↓exel_exit, ↓retel_norm, ↓retel_ret, oel_some, oel_none, bel_true, bel_false, hvel_true, hvel_false, exel_norm, exel_ret, exel_exit, retel_norm, retel_ret, fgtH_norm, fgtH_ret, fgtH_exit, blkel_norm, blkel_ret, blkel_exit, get_nil, get_cons, set_nil, set_cons, keep_nil, keep_cons, params_nil, params_cons, lookHG_t, lookHG_k, lookHG_f, alG, lookPG_t, lookPG_k, lookPG_f, wantsE_none, wantsE_some, wantB_bool, wantB_skip, stepsH_nil, stepsH_cons, stepH_eq, stepHL_eq, evHP_x, evHP_bm, evHP_snil, evHP_slc0, evHP_copy, evHC_skip, evHC_ret, evHC_exit, evHC_reg, evHC_regD, evHC_seq, evHC_cond, evHC_block, HOp.temps, HOp.opds, XOp.opds, optO, tempsO, hland, land1, evHX, evHV, evHN, evP, evHS, toP, vis, PV.loose, noOwn, noOwnL, refs, refsL, fresh, al, alL, fr_none, fr_bool, fr_int, fr_str, fr_nilp, fr_nils, fr_nilf, fr_sl, fr_sp, fr_ref, fr_view, fr_box, fr_own, fr_agg, fr_tup, fr_fn, setH, pvBin, intBin, fillH, fillP, PV.lok, cellsH, cells, HV.one, partsO, mkAgg, mkTup, allP, setCellsH, blkCells, partH, resHL, resH1, resT, tupHOf, slElems, bnd, idxOk, pvPeq, pvBeq, pvUn, mkOwn, rep, lendL, lend, lend1, lend1L, PV.flat, PV.flat1, lent, PV.isView, getElem?_len, getElem?_len0, set_len0, set_len, lim, part, norm1, slCells, h7, cForm, d1, d2, c33, ew]
    all_goals exact rfl
  | true =>
    cases bg with
    | false =>
      refine ⟨60, ?_⟩
      apply Exists.intro
      refine evHF_in (n := 59) h7k (x := h7) rfl rfl ?_
      simp (config := { maxSteps := 4000000 }) [↓evP_callC, ↓oel_some, ↓oel_none, ↓bel_true, ↓bel_false, ↓hvel_true, ↓hvel_false, ↓exel_norm, ↓exel_ret, ↓exel_exit, ↓retel_norm, ↓retel_ret, oel_some, oel_none, bel_true, bel_false, hvel_true, hvel_false, exel_norm, exel_ret, exel_exit, retel_norm, retel_ret, fgtH_norm, fgtH_ret, fgtH_exit, blkel_norm, blkel_ret, blkel_exit, get_nil, get_cons, set_nil, set_cons, keep_nil, keep_cons, params_nil, params_cons, lookHG_t, lookHG_k, lookHG_f, alG, lookPG_t, lookPG_k, lookPG_f, wantsE_none, wantsE_some, wantB_bool, wantB_skip, stepsH_nil, stepsH_cons, stepH_eq, stepHL_eq, evHP_x, evHP_bm, evHP_snil, evHP_slc0, evHP_copy, evHC_skip, evHC_ret, evHC_exit, evHC_reg, evHC_regD, evHC_seq, evHC_cond, evHC_block, HOp.temps, HOp.opds, XOp.opds, optO, tempsO, hland, land1, evHX, evHV, evHN, evP, evHS, toP, vis, PV.loose, noOwn, noOwnL, refs, refsL, fresh, al, alL, fr_none, fr_bool, fr_int, fr_str, fr_nilp, fr_nils, fr_nilf, fr_sl, fr_sp, fr_ref, fr_view, fr_box, fr_own, fr_agg, fr_tup, fr_fn, setH, pvBin, intBin, fillH, fillP, PV.lok, cellsH, cells, HV.one, partsO, mkAgg, mkTup, allP, setCellsH, blkCells, partH, resHL, resH1, resT, tupHOf, slElems, bnd, idxOk, pvPeq, pvBeq, pvUn, mkOwn, rep, lendL, lend, lend1, lend1L, PV.flat, PV.flat1, lent, PV.isView, getElem?_len, getElem?_len0, set_len0, set_len, lim, part, norm1, slCells, h7, cForm, d1, d2, c33, ew]
      all_goals exact rfl
    | true =>
      obtain ⟨n0, g', e45⟩ := ans45 (K := K) (C := C) h96k h45k [.box ((cForm f).map .p), .box ((cForm g).map .p)] okS P o97 o98 c97 c98 f hr hs hl
      simp only [cForm, List.map_cons, List.map_nil] at e45
      generalize hcv : chk okS P f = cv at d3 e45
      refine ⟨n0 + 200, ?_⟩
      apply Exists.intro
      refine evHF_in (n := n0 + 199) h7k (x := h7) rfl rfl ?_
      by_cases hz : cv = 0
      · subst hz
        simp (config := { maxSteps := 4000000 }) [↓evP_callC, ↓oel_some, ↓oel_none, ↓bel_true, ↓bel_false, ↓hvel_true, ↓hvel_false, ↓exel_norm, ↓exel_ret, ↓exel_exit, ↓retel_norm, ↓retel_ret, oel_some, oel_none, bel_true, bel_false, hvel_true, hvel_false, exel_norm, exel_ret, exel_exit, retel_norm, retel_ret, fgtH_norm, fgtH_ret, fgtH_exit, blkel_norm, blkel_ret, blkel_exit, get_nil, get_cons, set_nil, set_cons, keep_nil, keep_cons, params_nil, params_cons, lookHG_t, lookHG_k, lookHG_f, alG, lookPG_t, lookPG_k, lookPG_f, wantsE_none, wantsE_some, wantB_bool, wantB_skip, stepsH_nil, stepsH_cons, stepH_eq, stepHL_eq, evHP_x, evHP_bm, evHP_snil, evHP_slc0, evHP_copy, evHC_skip, evHC_ret, evHC_exit, evHC_reg, evHC_regD, evHC_seq, evHC_cond, evHC_block, HOp.temps, HOp.opds, XOp.opds, optO, tempsO, hland, land1, evHX, evHV, evHN, evP, evHS, toP, vis, PV.loose, noOwn, noOwnL, refs, refsL, fresh, al, alL, fr_none, fr_bool, fr_int, fr_str, fr_nilp, fr_nils, fr_nilf, fr_sl, fr_sp, fr_ref, fr_view, fr_box, fr_own, fr_agg, fr_tup, fr_fn, setH, pvBin, intBin, fillH, fillP, PV.lok, cellsH, cells, HV.one, partsO, mkAgg, mkTup, allP, setCellsH, blkCells, partH, resHL, resH1, resT, tupHOf, slElems, bnd, idxOk, pvPeq, pvBeq, pvUn, mkOwn, rep, lendL, lend, lend1, lend1L, PV.flat, PV.flat1, lent, PV.isView, getElem?_len, getElem?_len0, set_len0, set_len, lim, part, norm1, slCells, h7, cForm, d1, d2, d3, d4, d5, d6, d7, c33, c45, ew, e45, q1, q2, q3, q4, q5, q6, regHD_eq, traceHD_nil, traceHD_cons, stepHD_eq, isFresh, stableAll, stableOp, lastO, eqHO, eqHV, eqPV, eqPVL, readAt]
        all_goals exact rfl
      · have hz' : (cv != 0) = true := by simpa using hz
        simp (config := { maxSteps := 4000000 }) [↓evP_callC, ↓oel_some, ↓oel_none, ↓bel_true, ↓bel_false, ↓hvel_true, ↓hvel_false, ↓exel_norm, ↓exel_ret, ↓exel_exit, ↓retel_norm, ↓retel_ret, oel_some, oel_none, bel_true, bel_false, hvel_true, hvel_false, exel_norm, exel_ret, exel_exit, retel_norm, retel_ret, fgtH_norm, fgtH_ret, fgtH_exit, blkel_norm, blkel_ret, blkel_exit, get_nil, get_cons, set_nil, set_cons, keep_nil, keep_cons, params_nil, params_cons, lookHG_t, lookHG_k, lookHG_f, alG, lookPG_t, lookPG_k, lookPG_f, wantsE_none, wantsE_some, wantB_bool, wantB_skip, stepsH_nil, stepsH_cons, stepH_eq, stepHL_eq, evHP_x, evHP_bm, evHP_snil, evHP_slc0, evHP_copy, evHC_skip, evHC_ret, evHC_exit, evHC_reg, evHC_regD, evHC_seq, evHC_cond, evHC_block, HOp.temps, HOp.opds, XOp.opds, optO, tempsO, hland, land1, evHX, evHV, evHN, evP, evHS, toP, vis, PV.loose, noOwn, noOwnL, refs, refsL, fresh, al, alL, fr_none, fr_bool, fr_int, fr_str, fr_nilp, fr_nils, fr_nilf, fr_sl, fr_sp, fr_ref, fr_view, fr_box, fr_own, fr_agg, fr_tup, fr_fn, setH, pvBin, intBin, fillH, fillP, PV.lok, cellsH, cells, HV.one, partsO, mkAgg, mkTup, allP, setCellsH, blkCells, partH, resHL, resH1, resT, tupHOf, slElems, bnd, idxOk, pvPeq, pvBeq, pvUn, mkOwn, rep, lendL, lend, lend1, lend1L, PV.flat, PV.flat1, lent, PV.isView, getElem?_len, getElem?_len0, set_len0, set_len, lim, part, norm1, slCells, h7, cForm, d1, d2, d3, d4, d5, d6, d7, c33, c45, ew, e45, hz, hz', q1, q2, q3, q4, q5, q6, regHD_eq, traceHD_nil, traceHD_cons, stepHD_eq, isFresh, stableAll, stableOp, lastO, eqHO, eqHV, eqPV, eqPVL, readAt]
        all_goals exact rfl
end Go.Ab

namespace Go.Ab
open Go
set_option linter.unusedVariables false
set_option maxRecDepth 100000

def isTrueH : Option (HV × HSt) → Bool
  | some (.p (.bool true), _) => true
  | _ => false
theorem isTrueH_some {r : Option (HV × HSt)} (h : isTrueH r = true) : ∃ st, r = some (.p (.bool true), st) := by
  unfold isTrueH at h
  split at h
  · exact ⟨_, rfl⟩
  · cases h
def K0 : HCalls := fun _ _ _ => Option.none
theorem K0_ok {P : Program} : HCallOk P K0 := fun _ _ _ _ _ h => by cases h
theorem w33 : isTrueH (evHF C0 K0 TH 300 33 [] []) = true := by kernel_rfl
def K7 : HCalls := fun f ws st => if f = 33 then sealed (evHF C0 K0 TH 300) f ws st else Option.none
theorem K7_33 (st : HSt) : K7 33 [] st = some (.p (.bool true), st) := by
  obtain ⟨st', h⟩ := isTrueH_some w33
  simp [K7, sealed, h, PV.flat, PV.flat1]
theorem K7_no {f : Nat} (h : f ≠ 33) (ws : List HV) (st : HSt) : K7 f ws st = Option.none := if_neg h
theorem K7_ok {P : Program} (hm : P.follows .mixedOrders = true) (hT : TOkH P TH) : HCallOk P K7 := by
  intro f ws st r st' h
  unfold K7 at h
  split at h
  · exact sealed_ok (evHF_sound hm C0_ok K0_ok hT 300) f ws st r st' h
  · cases h
end Go.Ab

/- printed -/
namespace Go.Ab
open Go
set_option maxRecDepth 100000
theorem toh7 : OkH1 Go.Proofs.Try.prog 7 h7 := ⟨Go.Proofs.Try.f7, _, hintsH h7.body, Go.Proofs.Try.func7, by kernel_rfl, rfl, by decide, by decide, by kernel_rfl, by kernel_rfl⟩
theorem toh23 : OkH1 Go.Proofs.Try.prog 23 h23 := ⟨Go.Proofs.Try.f23, _, hintsH h23.body, Go.Proofs.Try.func23, by kernel_rfl, rfl, by decide, by decide, by kernel_rfl, by kernel_rfl⟩
theorem toh29 : OkH1 Go.Proofs.Try.prog 29 h29 := ⟨Go.Proofs.Try.f29, _, hintsH h29.body, Go.Proofs.Try.func29, by kernel_rfl, rfl, by decide, by decide, by kernel_rfl, by kernel_rfl⟩
theorem toh32 : OkH1 Go.Proofs.Try.prog 32 h32 := ⟨Go.Proofs.Try.f32, _, hintsH h32.body, Go.Proofs.Try.func32, by kernel_rfl, rfl, by decide, by decide, by kernel_rfl, by kernel_rfl⟩
theorem toh33 : OkH1 Go.Proofs.Try.prog 33 h33 := ⟨Go.Proofs.Try.f33, _, hintsH h33.body, Go.Proofs.Try.func33, by kernel_rfl, rfl, by decide, by decide, by kernel_rfl, by kernel_rfl⟩
theorem toh34 : OkH1 Go.Proofs.Try.prog 34 h34 := ⟨Go.Proofs.Try.f34, _, hintsH h34.body, Go.Proofs.Try.func34, by kernel_rfl, rfl, by decide, by decide, by kernel_rfl, by kernel_rfl⟩
theorem toh36 : OkH1 Go.Proofs.Try.prog 36 h36 := ⟨Go.Proofs.Try.f36, _, hintsH h36.body, Go.Proofs.Try.func36, by kernel_rfl, rfl, by decide, by decide, by kernel_rfl, by kernel_rfl⟩
theorem toh38 : OkH1 Go.Proofs.Try.prog 38 h38 := ⟨Go.Proofs.Try.f38, _, hintsH h38.body, Go.Proofs.Try.func38, by kernel_rfl, rfl, by decide, by decide, by kernel_rfl, by kernel_rfl⟩
theorem toh40 : OkH1 Go.Proofs.Try.prog 40 h40 := ⟨Go.Proofs.Try.f40, _, hintsH h40.body, Go.Proofs.Try.func40, by kernel_rfl, rfl, by decide, by decide, by kernel_rfl, by kernel_rfl⟩
theorem toh41 : OkH1 Go.Proofs.Try.prog 41 h41 := ⟨Go.Proofs.Try.f41, _, hintsH h41.body, Go.Proofs.Try.func41, by kernel_rfl, rfl, by decide, by decide, by kernel_rfl, by kernel_rfl⟩
theorem toh44 : OkH1 Go.Proofs.Try.prog 44 h44 := ⟨Go.Proofs.Try.f44, _, hintsH h44.body, Go.Proofs.Try.func44, by kernel_rfl, rfl, by decide, by decide, by kernel_rfl, by kernel_rfl⟩
theorem toh45 : OkH1 Go.Proofs.Try.prog 45 h45 := ⟨Go.Proofs.Try.f45, _, hintsH h45.body, Go.Proofs.Try.func45, by kernel_rfl, rfl, by decide, by decide, by kernel_rfl, by kernel_rfl⟩
theorem toh46 : OkH1 Go.Proofs.Try.prog 46 h46 := ⟨Go.Proofs.Try.f46, _, hintsH h46.body, Go.Proofs.Try.func46, by kernel_rfl, rfl, by decide, by decide, by kernel_rfl, by kernel_rfl⟩
theorem toh47 : OkH1 Go.Proofs.Try.prog 47 h47 := ⟨Go.Proofs.Try.f47, _, hintsH h47.body, Go.Proofs.Try.func47, by kernel_rfl, rfl, by decide, by decide, by kernel_rfl, by kernel_rfl⟩
theorem toh48 : OkH1 Go.Proofs.Try.prog 48 h48 := ⟨Go.Proofs.Try.f48, _, hintsH h48.body, Go.Proofs.Try.func48, by kernel_rfl, rfl, by decide, by decide, by kernel_rfl, by kernel_rfl⟩
theorem toh49 : OkH1 Go.Proofs.Try.prog 49 h49 := ⟨Go.Proofs.Try.f49, _, hintsH h49.body, Go.Proofs.Try.func49, by kernel_rfl, rfl, by decide, by decide, by kernel_rfl, by kernel_rfl⟩
theorem toh54 : OkH1 Go.Proofs.Try.prog 54 h54 := ⟨Go.Proofs.Try.f54, _, hintsH h54.body, Go.Proofs.Try.func54, by kernel_rfl, rfl, by decide, by decide, by kernel_rfl, by kernel_rfl⟩
theorem toh62 : OkH1 Go.Proofs.Try.prog 62 h62 := ⟨Go.Proofs.Try.f62, _, hintsH h62.body, Go.Proofs.Try.func62, by kernel_rfl, rfl, by decide, by decide, by kernel_rfl, by kernel_rfl⟩
theorem toh75 : OkH1 Go.Proofs.Try.prog 75 h75 := ⟨Go.Proofs.Try.f75, _, hintsH h75.body, Go.Proofs.Try.func75, by kernel_rfl, rfl, by decide, by decide, by kernel_rfl, by kernel_rfl⟩
theorem toh86 : OkH1 Go.Proofs.Try.prog 86 h86 := ⟨Go.Proofs.Try.f86, _, hintsH h86.body, Go.Proofs.Try.func86, by kernel_rfl, rfl, by decide, by decide, by kernel_rfl, by kernel_rfl⟩
theorem toh87 : OkH1 Go.Proofs.Try.prog 87 h87 := ⟨Go.Proofs.Try.f87, _, hintsH h87.body, Go.Proofs.Try.func87, by kernel_rfl, rfl, by decide, by decide, by kernel_rfl, by kernel_rfl⟩
theorem toh89 : OkH1 Go.Proofs.Try.prog 89 h89 := ⟨Go.Proofs.Try.f89, _, hintsH h89.body, Go.Proofs.Try.func89, by kernel_rfl, rfl, by decide, by decide, by kernel_rfl, by kernel_rfl⟩
theorem toh90 : OkH1 Go.Proofs.Try.prog 90 h90 := ⟨Go.Proofs.Try.f90, _, hintsH h90.body, Go.Proofs.Try.func90, by kernel_rfl, rfl, by decide, by decide, by kernel_rfl, by kernel_rfl⟩
theorem toh91 : OkH1 Go.Proofs.Try.prog 91 h91 := ⟨Go.Proofs.Try.f91, _, hintsH h91.body, Go.Proofs.Try.func91, by kernel_rfl, rfl, by decide, by decide, by kernel_rfl, by kernel_rfl⟩
theorem toh95 : OkH1 Go.Proofs.Try.prog 95 h95 := ⟨Go.Proofs.Try.f95, _, hintsH h95.body, Go.Proofs.Try.func95, by kernel_rfl, rfl, by decide, by decide, by kernel_rfl, by kernel_rfl⟩
theorem toh96 : OkH1 Go.Proofs.Try.prog 96 h96 := ⟨Go.Proofs.Try.f96, _, hintsH h96.body, Go.Proofs.Try.func96, by kernel_rfl, rfl, by decide, by decide, by kernel_rfl, by kernel_rfl⟩
theorem toh97 : OkH1 Go.Proofs.Try.prog 97 h97 := ⟨Go.Proofs.Try.f97, _, hintsH h97.body, Go.Proofs.Try.func97, by kernel_rfl, rfl, by decide, by decide, by kernel_rfl, by kernel_rfl⟩
theorem toh98 : OkH1 Go.Proofs.Try.prog 98 h98 := ⟨Go.Proofs.Try.f98, _, hintsH h98.body, Go.Proofs.Try.func98, by kernel_rfl, rfl, by decide, by decide, by kernel_rfl, by kernel_rfl⟩
theorem toh99 : OkH1 Go.Proofs.Try.prog 99 h99 := ⟨Go.Proofs.Try.f99, _, hintsH h99.body, Go.Proofs.Try.func99, by kernel_rfl, rfl, by decide, by decide, by kernel_rfl, by kernel_rfl⟩
theorem toh100 : OkH1 Go.Proofs.Try.prog 100 h100 := ⟨Go.Proofs.Try.f100, _, hintsH h100.body, Go.Proofs.Try.func100, by kernel_rfl, rfl, by decide, by decide, by kernel_rfl, by kernel_rfl⟩
theorem toh101 : OkH1 Go.Proofs.Try.prog 101 h101 := ⟨Go.Proofs.Try.f101, _, hintsH h101.body, Go.Proofs.Try.func101, by kernel_rfl, rfl, by decide, by decide, by kernel_rfl, by kernel_rfl⟩
theorem toh102 : OkH1 Go.Proofs.Try.prog 102 h102 := ⟨Go.Proofs.Try.f102, _, hintsH h102.body, Go.Proofs.Try.func102, by kernel_rfl, rfl, by decide, by decide, by kernel_rfl, by kernel_rfl⟩
theorem toh118 : OkH1 Go.Proofs.Try.prog 118 h118 := ⟨Go.Proofs.Try.f118, _, hintsH h118.body, Go.Proofs.Try.func118, by kernel_rfl, rfl, by decide, by decide, by kernel_rfl, by kernel_rfl⟩
theorem toh119 : OkH1 Go.Proofs.Try.prog 119 h119 := ⟨Go.Proofs.Try.f119, _, hintsH h119.body, Go.Proofs.Try.func119, by kernel_rfl, rfl, by decide, by decide, by kernel_rfl, by kernel_rfl⟩
theorem toh120 : OkH1 Go.Proofs.Try.prog 120 h120 := ⟨Go.Proofs.Try.f120, _, hintsH h120.body, Go.Proofs.Try.func120, by kernel_rfl, rfl, by decide, by decide, by kernel_rfl, by kernel_rfl⟩
theorem tokTH : TOkH Go.Proofs.Try.prog TH := tok_of (l := TL) ⟨toh7, toh23, toh29, toh32, toh33, toh34, toh36, toh38, toh40, toh41, toh44, toh45, toh46, toh47, toh48, toh49, toh54, toh62, toh75, toh86, toh87, toh89, toh90, toh91, toh95, toh96, toh97, toh98, toh99, toh100, toh101, toh102, toh118, toh119, toh120, trivial⟩
end Go.Ab

/-
  Printed by gen.py.
-/
namespace Go.Ab
open Go
set_option linter.unusedVariables false
set_option linter.unusedSimpArgs false
set_option maxRecDepth 100000
set_option maxHeartbeats 4000000
def q (d : Nat) (o : XOp) : XI := ⟨some d, o, .none, false⟩
def x95_1 : XC :=
  .reg [⟨some 14, .mv (.t 6), .none, false⟩,
 ⟨some 15, .fadr 2 (.t 2), .none, false⟩,
 ⟨some 16, .load false 1 (.t 15), .none, false⟩,
 ⟨some 17, .len false (.t 16), .none, false⟩,
 ⟨some 18, .bin .lss (.t 14) (.t 17), .none, false⟩,
 ⟨some 19, .mv (.t 18), .none, false⟩,
 ⟨some 20, .mv (.t 5), some (19, true), false⟩,
 ⟨some 21, .mv (.t 1), some (19, true), false⟩,
 ⟨some 22, .bin .leq (.t 20) (.t 21), some (19, true), false⟩,
 ⟨some 23, .pick (.t 19) (.t 22) (.k (.bool false)), .none, false⟩] false [1, 2, 5, 6, 23]
def x95_2 : XC :=
  .seq (.seq x95_1
 (.cond (.t 23) (.skip)
 (.exit 0 [5]) [1, 2, 5, 6]))
 (.seq (.block 1 (.reg [⟨some 26, .mv (.t 5), .none, false⟩,
 ⟨some 27, .bin .add (.t 26) (.k (.int .i64 1)), .none, false⟩,
 ⟨some 28, .fadr 2 (.t 2), .none, false⟩,
 ⟨some 29, .load false 1 (.t 28), .none, false⟩,
 ⟨some 30, .mv (.t 6), .none, false⟩,
 ⟨some 31, .iadr 1 .none (.t 29) (.t 30), .none, false⟩,
 ⟨some 32, .load false 1 (.t 31), .none, false⟩,
 ⟨some 33, .len false (.t 32), .none, false⟩,
 ⟨some 34, .bin .add (.t 27) (.t 33), .none, false⟩,
 ⟨some 5, .asg (.t 34), .none, false⟩] false [1, 2, 5, 6]) [1, 2, 5, 6])
 (.reg [⟨some 24, .mv (.t 6), .none, false⟩,
 ⟨some 25, .bin .add (.t 24) (.k (.int .i64 1)), .none, false⟩,
 ⟨some 6, .asg (.t 25), .none, false⟩] false [1, 2, 5, 6]))
def x95 : XF := ⟨2, 36, [.tmp 4],
  .seq (.reg [⟨some 2, .box (.t 0), .none, false⟩,
 ⟨some 4, .asg (.k (.int .i64 0)), .none, false⟩] false [1, 2])
 (.seq (.reg [⟨some 7, .fadr 0 (.t 2), .none, false⟩,
 ⟨some 8, .load false 1 (.t 7), .none, false⟩,
 ⟨some 9, .len false (.t 8), .none, false⟩,
 ⟨some 10, .fadr 1 (.t 2), .none, false⟩,
 ⟨some 11, .load false 1 (.t 10), .none, false⟩,
 ⟨some 12, .len false (.t 11), .none, false⟩,
 ⟨some 13, .bin .add (.t 9) (.t 12), .none, false⟩,
 ⟨some 5, .asg (.t 13), .none, false⟩] false [1, 2, 5])
 (.seq (.seq (.reg [⟨some 6, .asg (.k (.int .i64 0)), .none, false⟩] false [1, 2, 5, 6])
 (.block 0 (.loop x95_2 [1, 2, 5, 6]) [5]))
 (.seq (.reg [⟨some 35, .mv (.t 5), .none, false⟩,
 ⟨some 4, .asg (.t 35), .none, false⟩] false [4])
 (.ret)))), [], false, false, .none⟩
def x44 : XF := ⟨1, 6, [.tmp 2],
  .seq (.reg [⟨some 1, .box (.t 0), .none, false⟩,
 ⟨some 2, .asg (.k (.bool false)), .none, false⟩] false [1])
 (.seq (.reg [⟨some 3, .load true 3 (.t 1), .none, false⟩,
 ⟨some 4, .call 95 [.t 3, .k (.int .i64 300)] [], .none, false⟩,
 ⟨some 5, .bin .leq (.t 4) (.k (.int .i64 300)), .none, false⟩,
 ⟨some 2, .asg (.t 5), .none, false⟩] false [2])
 (.ret)), [], false, false, .none⟩
def x99_1 : XC :=
  .reg [⟨some 5, .mv (.t 0), .none, false⟩,
 ⟨some 6, .bin .lss (.t 5) (.k (.int .i64 0)), .none, false⟩,
 ⟨some 7, .mv (.t 6), .none, false⟩,
 ⟨some 8, .mv (.t 1), some (7, false), false⟩,
 ⟨some 9, .bin .lss (.t 8) (.k (.int .i64 0)), some (7, false), false⟩,
 ⟨some 10, .pick (.t 7) (.k (.bool true)) (.t 9), .none, false⟩,
 ⟨some 11, .mv (.t 10), .none, false⟩,
 ⟨some 12, .mv (.t 1), some (11, false), false⟩,
 ⟨some 13, .mv (.t 0), some (11, false), false⟩,
 ⟨some 14, .bin .add (.t 13) (.k (.int .i64 1)), some (11, false), false⟩,
 ⟨some 15, .bin .gtr (.t 12) (.t 14), some (11, false), false⟩,
 ⟨some 16, .pick (.t 11) (.k (.bool true)) (.t 15), .none, false⟩] false [0, 1, 16]
def x99 : XF := ⟨2, 22, [.tmp 4],
  .seq (.reg [⟨some 4, .asg (.k (.int .i64 0)), .none, false⟩] false [0, 1])
 (.seq (.seq x99_1
 (.cond (.t 16) (.seq (.reg [⟨some 4, .asg (.k (.int .i64 (-1))), .none, false⟩] false [4])
 (.ret))
 (.skip) [0, 1]))
 (.seq (.seq (.reg [⟨some 17, .mv (.t 1), .none, false⟩,
 ⟨some 18, .mv (.t 0), .none, false⟩,
 ⟨some 19, .bin .gtr (.t 17) (.t 18), .none, false⟩] false [0, 1, 19])
 (.cond (.t 19) (.seq (.reg [⟨some 20, .mv (.t 1), .none, false⟩,
 ⟨some 4, .asg (.t 20), .none, false⟩] false [4])
 (.ret))
 (.skip) [0]))
 (.seq (.reg [⟨some 21, .mv (.t 0), .none, false⟩,
 ⟨some 4, .asg (.t 21), .none, false⟩] false [4])
 (.ret)))), [], false, false, .none⟩
def x75_1 : XC :=
  .seq (.seq (.reg [⟨some 5, .mv (.t 4), .none, false⟩,
 ⟨some 6, .mv (.t 0), .none, false⟩,
 ⟨some 7, .bin .lss (.t 5) (.t 6), .none, false⟩] false [0, 3, 4, 7])
 (.cond (.t 7) (.skip)
 (.exit 0 [3]) [0, 3, 4]))
 (.seq (.block 1 (.reg [⟨some 10, .mv (.t 3), .none, false⟩,
 ⟨some 11, .bin .mul (.t 10) (.k (.int .i64 2)), .none, false⟩,
 ⟨some 3, .asg (.t 11), .none, false⟩] false [0, 3, 4]) [0, 3, 4])
 (.reg [⟨some 8, .mv (.t 4), .none, false⟩,
 ⟨some 9, .bin .add (.t 8) (.k (.int .i64 1)), .none, false⟩,
 ⟨some 4, .asg (.t 9), .none, false⟩] false [0, 3, 4]))
def x75 : XF := ⟨1, 13, [.tmp 2],
  .seq (.reg [⟨some 2, .asg (.k (.int .i64 0)), .none, false⟩] false [0])
 (.seq (.reg [⟨some 3, .asg (.k (.int .i64 1)), .none, false⟩] false [0, 3])
 (.seq (.seq (.reg [⟨some 4, .asg (.k (.int .i64 0)), .none, false⟩] false [0, 3, 4])
 (.block 0 (.loop x75_1 [0, 3, 4]) [3]))
 (.seq (.reg [⟨some 12, .mv (.t 3), .none, false⟩,
 ⟨some 2, .asg (.t 12), .none, false⟩] false [2])
 (.ret)))), [], false, false, .none⟩
def x62_1 : XC :=
  .reg [⟨some 3, .fadr 0 (.t 1), .none, false⟩,
 ⟨some 4, .load false 1 (.t 3), .none, false⟩,
 ⟨some 5, .bin .lss (.t 4) (.k (.int .i64 0)), .none, false⟩,
 ⟨some 6, .mv (.t 5), .none, false⟩,
 ⟨some 7, .fadr 0 (.t 1), some (6, false), false⟩,
 ⟨some 8, .load false 1 (.t 7), some (6, false), false⟩,
 ⟨some 9, .bin .gtr (.t 8) (.k (.int .i64 16)), some (6, false), false⟩,
 ⟨some 10, .pick (.t 6) (.k (.bool true)) (.t 9), .none, false⟩] false [1, 10]
def x62_2 : XC :=
  .reg [⟨some 11, .fadr 1 (.t 1), .none, false⟩,
 ⟨some 12, .load false 1 (.t 11), .none, false⟩,
 ⟨some 13, .bin .lss (.t 12) (.k (.int .i64 0)), .none, false⟩,
 ⟨some 14, .mv (.t 13), .none, false⟩,
 ⟨some 15, .fadr 1 (.t 1), some (14, false), false⟩,
 ⟨some 16, .load false 1 (.t 15), some (14, false), false⟩,
 ⟨some 17, .fadr 0 (.t 1), some (14, false), false⟩,
 ⟨some 18, .load false 1 (.t 17), some (14, false), false⟩,
 ⟨some 19, .call 75 [.t 18] [], some (14, false), false⟩,
 ⟨some 20, .bin .geq (.t 16) (.t 19), some (14, false), true⟩,
 ⟨some 21, .pick (.t 14) (.k (.bool true)) (.t 20), .none, true⟩] true [21]
def x62 : XF := ⟨1, 22, [.tmp 2],
  .seq (.reg [⟨some 1, .box (.t 0), .none, false⟩,
 ⟨some 2, .asg (.k (.int .i64 0)), .none, false⟩] false [1])
 (.seq (.seq x62_1
 (.cond (.t 10) (.seq (.reg [⟨some 2, .asg (.k (.int .i64 16)), .none, false⟩] false [2])
 (.ret))
 (.skip) [1]))
 (.seq (.seq x62_2
 (.cond (.t 21) (.seq (.reg [⟨some 2, .asg (.k (.int .i64 16)), .none, false⟩] false [2])
 (.ret))
 (.skip) []))
 (.seq (.reg [⟨some 2, .asg (.k (.int .i64 0)), .none, false⟩] false [2])
 (.ret)))), [], false, false, .none⟩
def x23_1 : XC :=
  .reg [⟨some 5, .mv (.t 1), .none, false⟩,
 ⟨some 6, .bin .lss (.t 5) (.k (.int .i64 0)), .none, false⟩,
 ⟨some 7, .mv (.t 6), .none, false⟩,
 ⟨some 8, .mv (.t 1), some (7, false), false⟩,
 ⟨some 9, .fadr 0 (.t 2), some (7, false), false⟩,
 ⟨some 10, .load false 1 (.t 9), some (7, false), false⟩,
 ⟨some 11, .bin .geq (.t 8) (.t 10), some (7, false), false⟩,
 ⟨some 12, .pick (.t 7) (.k (.bool true)) (.t 11), .none, false⟩] false [1, 2, 12]
def x23 : XF := ⟨2, 20, [.tmp 4],
  .seq (.reg [⟨some 2, .box (.t 0), .none, false⟩,
 ⟨some 4, .asg (.k (.bool false)), .none, false⟩] false [1, 2])
 (.seq (.seq x23_1
 (.cond (.t 12) (.seq (.reg [⟨some 4, .asg (.k (.bool false)), .none, false⟩] false [4])
 (.ret))
 (.skip) [1, 2]))
 (.seq (.reg [⟨some 13, .fadr 1 (.t 2), .none, false⟩,
 ⟨some 14, .load false 1 (.t 13), .none, false⟩,
 ⟨some 15, .mv (.t 1), .none, false⟩,
 ⟨some 16, .call 75 [.t 15] [], .none, false⟩,
 ⟨some 17, .bin .quo (.t 14) (.t 16), .none, true⟩,
 ⟨some 18, .bin .rem (.t 17) (.k (.int .i64 2)), .none, true⟩,
 ⟨some 19, .bin .eql (.t 18) (.k (.int .i64 1)), .none, true⟩,
 ⟨some 4, .asg (.t 19), .none, true⟩] true [4])
 (.ret))), [], false, false, .none⟩
def x46_1 : XC :=
  .seq (.seq (.reg [⟨some 15, .mv (.t 4), .none, false⟩,
 ⟨some 16, .fadr 0 (.t 1), .none, false⟩,
 ⟨some 17, .load false 1 (.t 16), .none, false⟩,
 ⟨some 18, .len false (.t 17), .none, false⟩,
 ⟨some 19, .bin .lss (.t 15) (.t 18), .none, false⟩] false [1, 3, 4, 19])
 (.cond (.t 19) (.skip)
 (.exit 0 [1, 3]) [1, 3, 4]))
 (.seq (.block 1 (.reg [⟨some 22, .mv (.t 3), .none, false⟩,
 ⟨some 23, .fadr 0 (.t 1), .none, false⟩,
 ⟨some 24, .load false 1 (.t 23), .none, false⟩,
 ⟨some 25, .mv (.t 4), .none, false⟩,
 ⟨some 26, .iadr 1 .none (.t 24) (.t 25), .none, false⟩,
 ⟨some 27, .load false 1 (.t 26), .none, false⟩,
 ⟨some 28, .call 99 [.t 22, .t 27] [], .none, false⟩,
 ⟨some 3, .asg (.t 28), .none, false⟩] false [1, 3, 4]) [1, 3, 4])
 (.reg [⟨some 20, .mv (.t 4), .none, false⟩,
 ⟨some 21, .bin .add (.t 20) (.k (.int .i64 1)), .none, false⟩,
 ⟨some 4, .asg (.t 21), .none, false⟩] false [1, 3, 4]))
def x46_2 : XC :=
  .reg [⟨some 43, .load true 2 (.t 6), .none, false⟩,
 ⟨some 44, .call 62 [.t 43] [], .none, false⟩,
 ⟨some 45, .bin .neq (.t 44) (.k (.int .i64 0)), .none, false⟩,
 ⟨some 46, .mv (.t 45), .none, false⟩,
 ⟨some 47, .fadr 2 (.t 1), some (46, false), false⟩,
 ⟨some 48, .load false 1 (.t 47), some (46, false), false⟩,
 ⟨some 49, .mv (.t 5), some (46, false), false⟩,
 ⟨some 50, .iadr 1 .none (.t 48) (.t 49), some (46, false), false⟩,
 ⟨some 51, .load false 1 (.t 50), some (46, false), false⟩,
 ⟨some 52, .len false (.t 51), some (46, false), false⟩,
 ⟨some 53, .fadr 0 (.t 6), some (46, false), false⟩,
 ⟨some 54, .load false 1 (.t 53), some (46, false), false⟩,
 ⟨some 55, .bin .neq (.t 52) (.t 54), some (46, false), true⟩,
 ⟨some 56, .pick (.t 46) (.k (.bool true)) (.t 55), .none, true⟩] true [1, 3, 5, 6, 56]
def x46_3 : XC :=
  .cond (.t 68) (.reg [⟨some 69, .mv (.t 3), .none, false⟩,
 ⟨some 70, .fadr 2 (.t 1), .none, false⟩,
 ⟨some 71, .load false 1 (.t 70), .none, false⟩,
 ⟨some 72, .mv (.t 5), .none, false⟩,
 ⟨some 73, .iadr 1 .none (.t 71) (.t 72), .none, false⟩,
 ⟨some 74, .load false 1 (.t 73), .none, false⟩,
 ⟨some 75, .mv (.t 7), .none, false⟩,
 ⟨some 76, .iadr 1 .none (.t 74) (.t 75), .none, false⟩,
 ⟨some 77, .load false 1 (.t 76), .none, false⟩,
 ⟨some 78, .call 99 [.t 69, .t 77] [], .none, false⟩,
 ⟨some 3, .asg (.t 78), .none, false⟩] false [1, 3, 5, 6, 7])
 (.skip) [1, 3, 5, 6, 7]
def x46_4 : XC :=
  .seq (.seq (.reg [⟨some 60, .mv (.t 7), .none, false⟩,
 ⟨some 61, .fadr 0 (.t 6), .none, false⟩,
 ⟨some 62, .load false 1 (.t 61), .none, false⟩,
 ⟨some 63, .bin .lss (.t 60) (.t 62), .none, false⟩] false [1, 3, 5, 6, 7, 63])
 (.cond (.t 63) (.skip)
 (.exit 4 [1, 3, 5]) [1, 3, 5, 6, 7]))
 (.seq (.block 5 (.seq (.reg [⟨some 66, .load true 2 (.t 6), .none, false⟩,
 ⟨some 67, .mv (.t 7), .none, false⟩,
 ⟨some 68, .call 23 [.t 66, .t 67] [], .none, false⟩] false [1, 3, 5, 6, 7, 68])
 x46_3) [1, 3, 5, 6, 7])
 (.reg [⟨some 64, .mv (.t 7), .none, false⟩,
 ⟨some 65, .bin .add (.t 64) (.k (.int .i64 1)), .none, false⟩,
 ⟨some 7, .asg (.t 65), .none, false⟩] false [1, 3, 5, 6, 7]))
def x46_5 : XC :=
  .seq (.seq (.reg [⟨some 31, .mv (.t 5), .none, false⟩,
 ⟨some 32, .fadr 1 (.t 1), .none, false⟩,
 ⟨some 33, .load false 1 (.t 32), .none, false⟩,
 ⟨some 34, .len false (.t 33), .none, false⟩,
 ⟨some 35, .bin .lss (.t 31) (.t 34), .none, false⟩] false [1, 3, 5, 35])
 (.cond (.t 35) (.skip)
 (.exit 2 [1, 3]) [1, 3, 5]))
 (.seq (.block 3 (.seq (.reg [⟨some 38, .fadr 1 (.t 1), .none, false⟩,
 ⟨some 39, .load false 1 (.t 38), .none, false⟩,
 ⟨some 40, .mv (.t 5), .none, false⟩,
 ⟨some 41, .iadr 2 .none (.t 39) (.t 40), .none, false⟩,
 ⟨some 42, .load true 2 (.t 41), .none, false⟩,
 ⟨some 6, .alloc [.int .i64 0, .int .i64 0], .none, false⟩,
 ⟨.none, .store 2 (.t 6) (.t 42), .none, false⟩] false [1, 3, 5, 6])
 (.seq (.seq x46_2
 (.cond (.t 56) (.seq (.reg [⟨some 2, .asg (.k (.int .i64 16)), .none, false⟩] false [2])
 (.ret))
 (.skip) [1, 3, 5, 6]))
 (.seq (.seq (.reg [⟨some 57, .mv (.t 5), .none, false⟩,
 ⟨some 58, .mv (.t 3), .none, false⟩,
 ⟨some 59, .bin .geq (.t 57) (.t 58), .none, false⟩] false [1, 3, 5, 6, 59])
 (.cond (.t 59) (.seq (.reg [⟨some 2, .asg (.k (.int .i64 14)), .none, false⟩] false [2])
 (.ret))
 (.skip) [1, 3, 5, 6]))
 (.seq (.seq (.reg [⟨some 7, .asg (.k (.int .i64 0)), .none, false⟩] false [1, 3, 5, 6, 7])
 (.block 4 (.loop x46_4 [1, 3, 5, 6, 7]) [1, 3, 5]))
 (.seq (.reg [⟨some 79, .mv (.t 3), .none, false⟩,
 ⟨some 80, .bin .lss (.t 79) (.k (.int .i64 0)), .none, false⟩] false [1, 3, 5, 80])
 (.cond (.t 80) (.seq (.reg [⟨some 2, .asg (.k (.int .i64 19)), .none, false⟩] false [2])
 (.ret))
 (.skip) [1, 3, 5])))))) [1, 3, 5])
 (.reg [⟨some 36, .mv (.t 5), .none, false⟩,
 ⟨some 37, .bin .add (.t 36) (.k (.int .i64 1)), .none, false⟩,
 ⟨some 5, .asg (.t 37), .none, false⟩] false [1, 3, 5]))
def x46 : XF := ⟨1, 86, [.tmp 2],
  .seq (.reg [⟨some 1, .box (.t 0), .none, false⟩,
 ⟨some 2, .asg (.k (.int .i64 0)), .none, false⟩] false [1])
 (.seq (.seq (.reg [⟨some 8, .fadr 1 (.t 1), .none, false⟩,
 ⟨some 9, .load false 1 (.t 8), .none, false⟩,
 ⟨some 10, .len false (.t 9), .none, false⟩,
 ⟨some 11, .fadr 2 (.t 1), .none, false⟩,
 ⟨some 12, .load false 1 (.t 11), .none, false⟩,
 ⟨some 13, .len false (.t 12), .none, false⟩,
 ⟨some 14, .bin .neq (.t 10) (.t 13), .none, false⟩] false [1, 14])
 (.cond (.t 14) (.seq (.reg [⟨some 2, .asg (.k (.int .i64 13)), .none, false⟩] false [2])
 (.ret))
 (.skip) [1]))
 (.seq (.reg [⟨some 3, .asg (.k (.int .i64 0)), .none, false⟩] false [1, 3])
 (.seq (.seq (.reg [⟨some 4, .asg (.k (.int .i64 0)), .none, false⟩] false [1, 3, 4])
 (.block 0 (.loop x46_1 [1, 3, 4]) [1, 3]))
 (.seq (.seq (.reg [⟨some 29, .mv (.t 3), .none, false⟩,
 ⟨some 30, .bin .lss (.t 29) (.k (.int .i64 0)), .none, false⟩] false [1, 3, 30])
 (.cond (.t 30) (.seq (.reg [⟨some 2, .asg (.k (.int .i64 19)), .none, false⟩] false [2])
 (.ret))
 (.skip) [1, 3]))
 (.seq (.seq (.reg [⟨some 5, .asg (.k (.int .i64 0)), .none, false⟩] false [1, 3, 5])
 (.block 2 (.loop x46_5 [1, 3, 5]) [1, 3]))
 (.seq (.seq (.reg [⟨some 81, .mv (.t 3), .none, false⟩,
 ⟨some 82, .fadr 1 (.t 1), .none, false⟩,
 ⟨some 83, .load false 1 (.t 82), .none, false⟩,
 ⟨some 84, .len false (.t 83), .none, false⟩,
 ⟨some 85, .bin .neq (.t 81) (.t 84), .none, false⟩] false [85])
 (.cond (.t 85) (.seq (.reg [⟨some 2, .asg (.k (.int .i64 20)), .none, false⟩] false [2])
 (.ret))
 (.skip) []))
 (.seq (.reg [⟨some 2, .asg (.k (.int .i64 0)), .none, false⟩] false [2])
 (.ret)))))))), [], false, false, .none⟩
def x100_1 : XC :=
  .seq (.reg [⟨some 14, .bin .lss (.t 13) (.t 12), .none, false⟩] false [0, 1, 12, 13, 14])
 (.seq (.cond (.t 14) (.skip)
 (.exit 0 []) [0, 1, 12, 13])
 (.seq (.block 1 (.seq (.reg [⟨some 15, .mv (.t 13), .none, false⟩,
 ⟨some 5, .asg (.t 15), .none, false⟩] false [0, 1, 5, 12, 13])
 (.seq (.reg [⟨some 16, .mv (.t 0), .none, false⟩,
 ⟨some 17, .mv (.t 5), .none, false⟩,
 ⟨some 18, .iadr 1 .none (.t 16) (.t 17), .none, false⟩,
 ⟨some 19, .load false 1 (.t 18), .none, false⟩,
 ⟨some 20, .mv (.t 1), .none, false⟩,
 ⟨some 21, .mv (.t 5), .none, false⟩,
 ⟨some 22, .iadr 1 .none (.t 20) (.t 21), .none, false⟩,
 ⟨some 23, .load false 1 (.t 22), .none, false⟩,
 ⟨some 24, .bin .neq (.t 19) (.t 23), .none, true⟩] true [0, 1, 12, 13, 24])
 (.cond (.t 24) (.seq (.reg [⟨some 4, .asg (.k (.bool false)), .none, false⟩] false [4])
 (.ret))
 (.skip) [0, 1, 12, 13]))) [0, 1, 12, 13])
 (.reg [⟨some 25, .bin .add (.t 13) (.k (.int .i64 1)), .none, false⟩,
 ⟨some 13, .mv (.t 25), .none, false⟩] false [0, 1, 12, 13])))
def x100 : XF := ⟨2, 26, [.tmp 4],
  .seq (.reg [⟨some 4, .asg (.k (.bool false)), .none, false⟩] false [0, 1])
 (.seq (.seq (.reg [⟨some 6, .mv (.t 0), .none, false⟩,
 ⟨some 7, .len false (.t 6), .none, false⟩,
 ⟨some 8, .mv (.t 1), .none, false⟩,
 ⟨some 9, .len false (.t 8), .none, false⟩,
 ⟨some 10, .bin .neq (.t 7) (.t 9), .none, false⟩] false [0, 1, 10])
 (.cond (.t 10) (.seq (.reg [⟨some 4, .asg (.k (.bool false)), .none, false⟩] false [4])
 (.ret))
 (.skip) [0, 1]))
 (.seq (.seq (.reg [⟨some 11, .mv (.t 0), .none, false⟩,
 ⟨some 12, .len false (.t 11), .none, false⟩,
 ⟨some 13, .mv (.k (.int .i64 0)), .none, false⟩] false [0, 1, 12, 13])
 (.block 0 (.loop x100_1 [0, 1, 12, 13]) []))
 (.seq (.reg [⟨some 4, .asg (.k (.bool true)), .none, false⟩] false [4])
 (.ret)))), [], false, false, .none⟩
def x101_1 : XC :=
  .seq (.reg [⟨some 14, .bin .lss (.t 13) (.t 12), .none, false⟩] false [0, 1, 12, 13, 14])
 (.seq (.cond (.t 14) (.skip)
 (.exit 0 []) [0, 1, 12, 13])
 (.seq (.block 1 (.seq (.reg [⟨some 15, .mv (.t 13), .none, false⟩,
 ⟨some 5, .asg (.t 15), .none, false⟩] false [0, 1, 5, 12, 13])
 (.seq (.reg [⟨some 16, .mv (.t 0), .none, false⟩,
 ⟨some 17, .mv (.t 5), .none, false⟩,
 ⟨some 18, .iadr 2 .none (.t 16) (.t 17), .none, false⟩,
 ⟨some 19, .load true 2 (.t 18), .none, false⟩,
 ⟨some 20, .mv (.t 1), .none, false⟩,
 ⟨some 21, .mv (.t 5), .none, false⟩,
 ⟨some 22, .iadr 2 .none (.t 20) (.t 21), .none, false⟩,
 ⟨some 23, .load true 2 (.t 22), .none, false⟩,
 ⟨some 24, .aeq true [.int .i64 0, .int .i64 0] (.t 19) (.t 23), .none, true⟩] true [0, 1, 12, 13, 24])
 (.cond (.t 24) (.seq (.reg [⟨some 4, .asg (.k (.bool false)), .none, false⟩] false [4])
 (.ret))
 (.skip) [0, 1, 12, 13]))) [0, 1, 12, 13])
 (.reg [⟨some 25, .bin .add (.t 13) (.k (.int .i64 1)), .none, false⟩,
 ⟨some 13, .mv (.t 25), .none, false⟩] false [0, 1, 12, 13])))
def x101 : XF := ⟨2, 26, [.tmp 4],
  .seq (.reg [⟨some 4, .asg (.k (.bool false)), .none, false⟩] false [0, 1])
 (.seq (.seq (.reg [⟨some 6, .mv (.t 0), .none, false⟩,
 ⟨some 7, .len false (.t 6), .none, false⟩,
 ⟨some 8, .mv (.t 1), .none, false⟩,
 ⟨some 9, .len false (.t 8), .none, false⟩,
 ⟨some 10, .bin .neq (.t 7) (.t 9), .none, false⟩] false [0, 1, 10])
 (.cond (.t 10) (.seq (.reg [⟨some 4, .asg (.k (.bool false)), .none, false⟩] false [4])
 (.ret))
 (.skip) [0, 1]))
 (.seq (.seq (.reg [⟨some 11, .mv (.t 0), .none, false⟩,
 ⟨some 12, .len false (.t 11), .none, false⟩,
 ⟨some 13, .mv (.k (.int .i64 0)), .none, false⟩] false [0, 1, 12, 13])
 (.block 0 (.loop x101_1 [0, 1, 12, 13]) []))
 (.seq (.reg [⟨some 4, .asg (.k (.bool true)), .none, false⟩] false [4])
 (.ret)))), [], false, false, .none⟩
def x102_1 : XC :=
  .seq (.reg [⟨some 14, .bin .lss (.t 13) (.t 12), .none, false⟩] false [0, 1, 12, 13, 14])
 (.seq (.cond (.t 14) (.skip)
 (.exit 0 []) [0, 1, 12, 13])
 (.seq (.block 1 (.seq (.reg [⟨some 15, .mv (.t 13), .none, false⟩,
 ⟨some 5, .asg (.t 15), .none, false⟩] false [0, 1, 5, 12, 13])
 (.seq (.reg [⟨some 16, .mv (.t 0), .none, false⟩,
 ⟨some 17, .mv (.t 5), .none, false⟩,
 ⟨some 18, .iadr 1 .none (.t 16) (.t 17), .none, false⟩,
 ⟨some 19, .load false 1 (.t 18), .none, false⟩,
 ⟨some 20, .mv (.t 1), .none, false⟩,
 ⟨some 21, .mv (.t 5), .none, false⟩,
 ⟨some 22, .iadr 1 .none (.t 20) (.t 21), .none, false⟩,
 ⟨some 23, .load false 1 (.t 22), .none, false⟩,
 ⟨some 24, .bin .neq (.t 19) (.t 23), .none, true⟩] true [0, 1, 12, 13, 24])
 (.cond (.t 24) (.seq (.reg [⟨some 4, .asg (.k (.bool false)), .none, false⟩] false [4])
 (.ret))
 (.skip) [0, 1, 12, 13]))) [0, 1, 12, 13])
 (.reg [⟨some 25, .bin .add (.t 13) (.k (.int .i64 1)), .none, false⟩,
 ⟨some 13, .mv (.t 25), .none, false⟩] false [0, 1, 12, 13])))
def x102 : XF := ⟨2, 26, [.tmp 4],
  .seq (.reg [⟨some 4, .asg (.k (.bool false)), .none, false⟩] false [0, 1])
 (.seq (.seq (.reg [⟨some 6, .mv (.t 0), .none, false⟩,
 ⟨some 7, .len false (.t 6), .none, false⟩,
 ⟨some 8, .mv (.t 1), .none, false⟩,
 ⟨some 9, .len false (.t 8), .none, false⟩,
 ⟨some 10, .bin .neq (.t 7) (.t 9), .none, false⟩] false [0, 1, 10])
 (.cond (.t 10) (.seq (.reg [⟨some 4, .asg (.k (.bool false)), .none, false⟩] false [4])
 (.ret))
 (.skip) [0, 1]))
 (.seq (.seq (.reg [⟨some 11, .mv (.t 0), .none, false⟩,
 ⟨some 12, .len false (.t 11), .none, false⟩,
 ⟨some 13, .mv (.k (.int .i64 0)), .none, false⟩] false [0, 1, 12, 13])
 (.block 0 (.loop x102_1 [0, 1, 12, 13]) []))
 (.seq (.reg [⟨some 4, .asg (.k (.bool true)), .none, false⟩] false [4])
 (.ret)))), [], false, false, .none⟩
def x47_1 : XC :=
  .reg [⟨some 6, .fadr 0 (.t 2), .none, false⟩,
 ⟨some 7, .load false 1 (.t 6), .none, false⟩,
 ⟨some 8, .fadr 0 (.t 3), .none, false⟩,
 ⟨some 9, .load false 1 (.t 8), .none, false⟩,
 ⟨some 10, .call 100 [.t 7, .t 9] [], .none, false⟩,
 ⟨some 11, .un .not (.t 10), .none, false⟩,
 ⟨some 12, .mv (.t 11), .none, false⟩,
 ⟨some 13, .fadr 1 (.t 2), some (12, false), false⟩,
 ⟨some 14, .load false 1 (.t 13), some (12, false), false⟩,
 ⟨some 15, .fadr 1 (.t 3), some (12, false), false⟩,
 ⟨some 16, .load false 1 (.t 15), some (12, false), false⟩,
 ⟨some 17, .call 101 [.t 14, .t 16] [], some (12, false), false⟩,
 ⟨some 18, .un .not (.t 17), some (12, false), false⟩,
 ⟨some 19, .pick (.t 12) (.k (.bool true)) (.t 18), .none, false⟩,
 ⟨some 20, .mv (.t 19), .none, false⟩,
 ⟨some 21, .fadr 2 (.t 2), some (20, false), false⟩,
 ⟨some 22, .load false 1 (.t 21), some (20, false), false⟩,
 ⟨some 23, .len false (.t 22), some (20, false), false⟩,
 ⟨some 24, .fadr 2 (.t 3), some (20, false), false⟩,
 ⟨some 25, .load false 1 (.t 24), some (20, false), false⟩,
 ⟨some 26, .len false (.t 25), some (20, false), false⟩,
 ⟨some 27, .bin .neq (.t 23) (.t 26), some (20, false), false⟩,
 ⟨some 28, .pick (.t 20) (.k (.bool true)) (.t 27), .none, false⟩] false [2, 3, 28]
def x47_2 : XC :=
  .seq (.reg [⟨some 33, .bin .lss (.t 32) (.t 31), .none, false⟩] false [2, 3, 31, 32, 33])
 (.seq (.cond (.t 33) (.skip)
 (.exit 0 []) [2, 3, 31, 32])
 (.seq (.block 1 (.seq (.reg [⟨some 34, .mv (.t 32), .none, false⟩,
 ⟨some 5, .asg (.t 34), .none, false⟩] false [2, 3, 5, 31, 32])
 (.seq (.reg [⟨some 35, .fadr 2 (.t 2), .none, false⟩,
 ⟨some 36, .load false 1 (.t 35), .none, false⟩,
 ⟨some 37, .mv (.t 5), .none, false⟩,
 ⟨some 38, .iadr 1 .none (.t 36) (.t 37), .none, false⟩,
 ⟨some 39, .load false 1 (.t 38), .none, false⟩,
 ⟨some 40, .fadr 2 (.t 3), .none, false⟩,
 ⟨some 41, .load false 1 (.t 40), .none, false⟩,
 ⟨some 42, .mv (.t 5), .none, false⟩,
 ⟨some 43, .iadr 1 .none (.t 41) (.t 42), .none, false⟩,
 ⟨some 44, .load false 1 (.t 43), .none, false⟩,
 ⟨some 45, .call 102 [.t 39, .t 44] [], .none, true⟩,
 ⟨some 46, .un .not (.t 45), .none, true⟩] true [2, 3, 31, 32, 46])
 (.cond (.t 46) (.seq (.reg [⟨some 4, .asg (.k (.bool false)), .none, false⟩] false [4])
 (.ret))
 (.skip) [2, 3, 31, 32]))) [2, 3, 31, 32])
 (.reg [⟨some 47, .bin .add (.t 32) (.k (.int .i64 1)), .none, false⟩,
 ⟨some 32, .mv (.t 47), .none, false⟩] false [2, 3, 31, 32])))
def x47 : XF := ⟨2, 48, [.tmp 4],
  .seq (.reg [⟨some 2, .box (.t 0), .none, false⟩,
 ⟨some 3, .box (.t 1), .none, false⟩,
 ⟨some 4, .asg (.k (.bool false)), .none, false⟩] false [2, 3])
 (.seq (.seq x47_1
 (.cond (.t 28) (.seq (.reg [⟨some 4, .asg (.k (.bool false)), .none, false⟩] false [4])
 (.ret))
 (.skip) [2, 3]))
 (.seq (.seq (.reg [⟨some 29, .fadr 2 (.t 2), .none, false⟩,
 ⟨some 30, .load false 1 (.t 29), .none, false⟩,
 ⟨some 31, .len false (.t 30), .none, false⟩,
 ⟨some 32, .mv (.k (.int .i64 0)), .none, false⟩] false [2, 3, 31, 32])
 (.block 0 (.loop x47_2 [2, 3, 31, 32]) []))
 (.seq (.reg [⟨some 4, .asg (.k (.bool true)), .none, false⟩] false [4])
 (.ret)))), [], false, false, .none⟩
def x29_1 : XC :=
  .seq (.seq (.reg [⟨some 11, .mv (.t 5), .none, false⟩,
 ⟨some 12, .mv (.t 0), .none, false⟩,
 ⟨some 13, .len false (.t 12), .none, false⟩,
 ⟨some 14, .bin .lss (.t 11) (.t 13), .none, false⟩] false [0, 1, 5, 14])
 (.cond (.t 14) (.skip)
 (.exit 0 []) [0, 1, 5]))
 (.seq (.block 1 (.seq (.reg [⟨some 17, .mv (.t 0), .none, false⟩,
 ⟨some 18, .mv (.t 5), .none, false⟩,
 ⟨some 19, .iadr 1 .none (.t 17) (.t 18), .none, false⟩,
 ⟨some 20, .load false 1 (.t 19), .none, false⟩,
 ⟨some 21, .mv (.t 1), .none, false⟩,
 ⟨some 22, .mv (.t 5), .none, false⟩,
 ⟨some 23, .iadr 1 .none (.t 21) (.t 22), .none, false⟩,
 ⟨some 24, .load false 1 (.t 23), .none, false⟩,
 ⟨some 25, .bin .neq (.t 20) (.t 24), .none, true⟩] true [0, 1, 5, 25])
 (.cond (.t 25) (.seq (.reg [⟨some 4, .asg (.k (.bool false)), .none, false⟩] false [4])
 (.ret))
 (.skip) [0, 1, 5])) [0, 1, 5])
 (.reg [⟨some 15, .mv (.t 5), .none, false⟩,
 ⟨some 16, .bin .add (.t 15) (.k (.int .i64 1)), .none, false⟩,
 ⟨some 5, .asg (.t 16), .none, false⟩] false [0, 1, 5]))
def x29 : XF := ⟨2, 26, [.tmp 4],
  .seq (.reg [⟨some 4, .asg (.k (.bool false)), .none, false⟩] false [0, 1])
 (.seq (.seq (.reg [⟨some 6, .mv (.t 0), .none, false⟩,
 ⟨some 7, .len false (.t 6), .none, false⟩,
 ⟨some 8, .mv (.t 1), .none, false⟩,
 ⟨some 9, .len false (.t 8), .none, false⟩,
 ⟨some 10, .bin .neq (.t 7) (.t 9), .none, false⟩] false [0, 1, 10])
 (.cond (.t 10) (.seq (.reg [⟨some 4, .asg (.k (.bool false)), .none, false⟩] false [4])
 (.ret))
 (.skip) [0, 1]))
 (.seq (.seq (.reg [⟨some 5, .asg (.k (.int .i64 0)), .none, false⟩] false [0, 1, 5])
 (.block 0 (.loop x29_1 [0, 1, 5]) []))
 (.seq (.reg [⟨some 4, .asg (.k (.bool true)), .none, false⟩] false [4])
 (.ret)))), [], false, false, .none⟩
def x86_1 : XC :=
  .seq (.seq (.reg [⟨some 11, .mv (.t 5), .none, false⟩,
 ⟨some 12, .mv (.t 0), .none, false⟩,
 ⟨some 13, .len false (.t 12), .none, false⟩,
 ⟨some 14, .bin .lss (.t 11) (.t 13), .none, false⟩] false [0, 1, 5, 14])
 (.cond (.t 14) (.skip)
 (.exit 0 []) [0, 1, 5]))
 (.seq (.block 1 (.seq (.reg [⟨some 17, .mv (.t 0), .none, false⟩,
 ⟨some 18, .mv (.t 5), .none, false⟩,
 ⟨some 19, .iadr 1 .none (.t 17) (.t 18), .none, false⟩,
 ⟨some 20, .load false 1 (.t 19), .none, false⟩,
 ⟨some 21, .mv (.t 1), .none, false⟩,
 ⟨some 22, .mv (.t 5), .none, false⟩,
 ⟨some 23, .iadr 1 .none (.t 21) (.t 22), .none, false⟩,
 ⟨some 24, .load false 1 (.t 23), .none, false⟩,
 ⟨some 25, .bin .neq (.t 20) (.t 24), .none, true⟩] true [0, 1, 5, 25])
 (.cond (.t 25) (.seq (.reg [⟨some 4, .asg (.k (.bool false)), .none, false⟩] false [4])
 (.ret))
 (.skip) [0, 1, 5])) [0, 1, 5])
 (.reg [⟨some 15, .mv (.t 5), .none, false⟩,
 ⟨some 16, .bin .add (.t 15) (.k (.int .i64 1)), .none, false⟩,
 ⟨some 5, .asg (.t 16), .none, false⟩] false [0, 1, 5]))
def x86 : XF := ⟨2, 26, [.tmp 4],
  .seq (.reg [⟨some 4, .asg (.k (.bool false)), .none, false⟩] false [0, 1])
 (.seq (.seq (.reg [⟨some 6, .mv (.t 0), .none, false⟩,
 ⟨some 7, .len false (.t 6), .none, false⟩,
 ⟨some 8, .mv (.t 1), .none, false⟩,
 ⟨some 9, .len false (.t 8), .none, false⟩,
 ⟨some 10, .bin .gtr (.t 7) (.t 9), .none, false⟩] false [0, 1, 10])
 (.cond (.t 10) (.seq (.reg [⟨some 4, .asg (.k (.bool false)), .none, false⟩] false [4])
 (.ret))
 (.skip) [0, 1]))
 (.seq (.seq (.reg [⟨some 5, .asg (.k (.int .i64 0)), .none, false⟩] false [0, 1, 5])
 (.block 0 (.loop x86_1 [0, 1, 5]) []))
 (.seq (.reg [⟨some 4, .asg (.k (.bool true)), .none, false⟩] false [4])
 (.ret)))), [], false, false, .none⟩
def x32_1 : XC :=
  .reg [⟨some 5, .mv (.t 0), .none, false⟩,
 ⟨some 6, .len false (.t 5), .none, false⟩,
 ⟨some 7, .mv (.t 1), .none, false⟩,
 ⟨some 8, .len false (.t 7), .none, false⟩,
 ⟨some 9, .bin .eql (.t 6) (.t 8), .none, false⟩,
 ⟨some 10, .mv (.t 9), .none, false⟩,
 ⟨some 11, .mv (.t 0), some (10, true), false⟩,
 ⟨some 12, .mv (.t 1), some (10, true), false⟩,
 ⟨some 13, .call 86 [.t 11, .t 12] [], some (10, true), false⟩,
 ⟨some 14, .pick (.t 10) (.t 13) (.k (.bool false)), .none, false⟩,
 ⟨some 4, .asg (.t 14), .none, false⟩] false [4]
def x32 : XF := ⟨2, 15, [.tmp 4],
  .seq (.reg [⟨some 4, .asg (.k (.bool false)), .none, false⟩] false [0, 1])
 (.seq x32_1
 (.ret)), [], false, false, .none⟩
def x40_1 : XC :=
  .reg [⟨some 7, .fadr 0 (.t 2), .none, false⟩,
 ⟨some 8, .load false 1 (.t 7), .none, false⟩,
 ⟨some 9, .fadr 0 (.t 3), .none, false⟩,
 ⟨some 10, .load false 1 (.t 9), .none, false⟩,
 ⟨some 11, .call 29 [.t 8, .t 10] [], .none, false⟩,
 ⟨some 12, .un .not (.t 11), .none, false⟩,
 ⟨some 13, .mv (.t 12), .none, false⟩,
 ⟨some 14, .fadr 1 (.t 2), some (13, false), false⟩,
 ⟨some 15, .load false 1 (.t 14), some (13, false), false⟩,
 ⟨some 16, .len false (.t 15), some (13, false), false⟩,
 ⟨some 17, .fadr 1 (.t 3), some (13, false), false⟩,
 ⟨some 18, .load false 1 (.t 17), some (13, false), false⟩,
 ⟨some 19, .len false (.t 18), some (13, false), false⟩,
 ⟨some 20, .bin .neq (.t 16) (.t 19), some (13, false), false⟩,
 ⟨some 21, .pick (.t 13) (.k (.bool true)) (.t 20), .none, false⟩,
 ⟨some 22, .mv (.t 21), .none, false⟩,
 ⟨some 23, .fadr 2 (.t 2), some (22, false), false⟩,
 ⟨some 24, .load false 1 (.t 23), some (22, false), false⟩,
 ⟨some 25, .len false (.t 24), some (22, false), false⟩,
 ⟨some 26, .fadr 2 (.t 3), some (22, false), false⟩,
 ⟨some 27, .load false 1 (.t 26), some (22, false), false⟩,
 ⟨some 28, .len false (.t 27), some (22, false), false⟩,
 ⟨some 29, .bin .neq (.t 25) (.t 28), some (22, false), false⟩,
 ⟨some 30, .pick (.t 22) (.k (.bool true)) (.t 29), .none, false⟩] false [2, 3, 30]
def x40_2 : XC :=
  .seq (.seq (.reg [⟨some 31, .mv (.t 5), .none, false⟩,
 ⟨some 32, .fadr 1 (.t 2), .none, false⟩,
 ⟨some 33, .load false 1 (.t 32), .none, false⟩,
 ⟨some 34, .len false (.t 33), .none, false⟩,
 ⟨some 35, .bin .lss (.t 31) (.t 34), .none, false⟩] false [2, 3, 5, 35])
 (.cond (.t 35) (.skip)
 (.exit 0 [2, 3]) [2, 3, 5]))
 (.seq (.block 1 (.seq (.reg [⟨some 38, .fadr 1 (.t 2), .none, false⟩,
 ⟨some 39, .load false 1 (.t 38), .none, false⟩,
 ⟨some 40, .mv (.t 5), .none, false⟩,
 ⟨some 41, .iadr 2 .none (.t 39) (.t 40), .none, false⟩,
 ⟨some 42, .load true 2 (.t 41), .none, false⟩,
 ⟨some 43, .fadr 1 (.t 3), .none, false⟩,
 ⟨some 44, .load false 1 (.t 43), .none, false⟩,
 ⟨some 45, .mv (.t 5), .none, false⟩,
 ⟨some 46, .iadr 2 .none (.t 44) (.t 45), .none, false⟩,
 ⟨some 47, .load true 2 (.t 46), .none, false⟩,
 ⟨some 48, .aeq true [.int .i64 0, .int .i64 0] (.t 42) (.t 47), .none, true⟩] true [2, 3, 5, 48])
 (.cond (.t 48) (.seq (.reg [⟨some 4, .asg (.k (.bool false)), .none, false⟩] false [4])
 (.ret))
 (.skip) [2, 3, 5])) [2, 3, 5])
 (.reg [⟨some 36, .mv (.t 5), .none, false⟩,
 ⟨some 37, .bin .add (.t 36) (.k (.int .i64 1)), .none, false⟩,
 ⟨some 5, .asg (.t 37), .none, false⟩] false [2, 3, 5]))
def x40_3 : XC :=
  .seq (.seq (.reg [⟨some 49, .mv (.t 6), .none, false⟩,
 ⟨some 50, .fadr 2 (.t 2), .none, false⟩,
 ⟨some 51, .load false 1 (.t 50), .none, false⟩,
 ⟨some 52, .len false (.t 51), .none, false⟩,
 ⟨some 53, .bin .lss (.t 49) (.t 52), .none, false⟩] false [2, 3, 6, 53])
 (.cond (.t 53) (.skip)
 (.exit 2 []) [2, 3, 6]))
 (.seq (.block 3 (.seq (.reg [⟨some 56, .fadr 2 (.t 2), .none, false⟩,
 ⟨some 57, .load false 1 (.t 56), .none, false⟩,
 ⟨some 58, .mv (.t 6), .none, false⟩,
 ⟨some 59, .iadr 1 .none (.t 57) (.t 58), .none, false⟩,
 ⟨some 60, .load false 1 (.t 59), .none, false⟩,
 ⟨some 61, .fadr 2 (.t 3), .none, false⟩,
 ⟨some 62, .load false 1 (.t 61), .none, false⟩,
 ⟨some 63, .mv (.t 6), .none, false⟩,
 ⟨some 64, .iadr 1 .none (.t 62) (.t 63), .none, false⟩,
 ⟨some 65, .load false 1 (.t 64), .none, false⟩,
 ⟨some 66, .call 32 [.t 60, .t 65] [], .none, true⟩,
 ⟨some 67, .un .not (.t 66), .none, true⟩] true [2, 3, 6, 67])
 (.cond (.t 67) (.seq (.reg [⟨some 4, .asg (.k (.bool false)), .none, false⟩] false [4])
 (.ret))
 (.skip) [2, 3, 6])) [2, 3, 6])
 (.reg [⟨some 54, .mv (.t 6), .none, false⟩,
 ⟨some 55, .bin .add (.t 54) (.k (.int .i64 1)), .none, false⟩,
 ⟨some 6, .asg (.t 55), .none, false⟩] false [2, 3, 6]))
def x40 : XF := ⟨2, 68, [.tmp 4],
  .seq (.reg [⟨some 2, .box (.t 0), .none, false⟩,
 ⟨some 3, .box (.t 1), .none, false⟩,
 ⟨some 4, .asg (.k (.bool false)), .none, false⟩] false [2, 3])
 (.seq (.seq x40_1
 (.cond (.t 30) (.seq (.reg [⟨some 4, .asg (.k (.bool false)), .none, false⟩] false [4])
 (.ret))
 (.skip) [2, 3]))
 (.seq (.seq (.reg [⟨some 5, .asg (.k (.int .i64 0)), .none, false⟩] false [2, 3, 5])
 (.block 0 (.loop x40_2 [2, 3, 5]) [2, 3]))
 (.seq (.seq (.reg [⟨some 6, .asg (.k (.int .i64 0)), .none, false⟩] false [2, 3, 6])
 (.block 2 (.loop x40_3 [2, 3, 6]) []))
 (.seq (.reg [⟨some 4, .asg (.k (.bool true)), .none, false⟩] false [4])
 (.ret))))), [], false, false, .none⟩
def x48_1 : XC :=
  .seq (.reg [⟨some 10, .bin .lss (.t 9) (.t 8), .none, false⟩] false [1, 3, 7, 8, 9, 10])
 (.seq (.cond (.t 10) (.skip)
 (.exit 0 [3]) [1, 3, 7, 8, 9])
 (.seq (.block 1 (.seq (.reg [⟨some 11, .iadr 2 .none (.t 7) (.t 9), .none, false⟩,
 ⟨some 12, .load true 2 (.t 11), .none, false⟩,
 ⟨some 5, .alloc [.int .i64 0, .int .i64 0], .none, false⟩,
 ⟨.none, .store 2 (.t 5) (.t 12), .none, false⟩] false [1, 3, 5, 7, 8, 9])
 (.reg [⟨some 13, .mv (.t 3), .none, false⟩,
 ⟨some 14, .fadr 0 (.t 5), .none, false⟩,
 ⟨some 15, .load false 1 (.t 14), .none, false⟩,
 ⟨some 16, .bin .add (.k (.int .i64 1)) (.t 15), .none, false⟩,
 ⟨some 17, .bin .add (.t 13) (.t 16), .none, false⟩,
 ⟨some 3, .asg (.t 17), .none, false⟩] false [1, 3, 7, 8, 9])) [1, 3, 7, 8, 9])
 (.reg [⟨some 18, .bin .add (.t 9) (.k (.int .i64 1)), .none, false⟩,
 ⟨some 9, .mv (.t 18), .none, false⟩] false [1, 3, 7, 8, 9])))
def x48 : XF := ⟨1, 20, [.tmp 2],
  .seq (.reg [⟨some 1, .box (.t 0), .none, false⟩,
 ⟨some 2, .asg (.k (.int .i64 0)), .none, false⟩] false [1])
 (.seq (.reg [⟨some 3, .asg (.k (.int .i64 0)), .none, false⟩] false [1, 3])
 (.seq (.seq (.reg [⟨some 6, .fadr 1 (.t 1), .none, false⟩,
 ⟨some 7, .load false 1 (.t 6), .none, false⟩,
 ⟨some 8, .len false (.t 7), .none, false⟩,
 ⟨some 9, .mv (.k (.int .i64 0)), .none, false⟩] false [1, 3, 7, 8, 9])
 (.block 0 (.loop x48_1 [1, 3, 7, 8, 9]) [3]))
 (.seq (.reg [⟨some 19, .mv (.t 3), .none, false⟩,
 ⟨some 2, .asg (.t 19), .none, false⟩] false [2])
 (.ret)))), [], false, false, .none⟩
def x49_1 : XC :=
  .seq (.seq (.reg [⟨some 5, .mv (.t 4), .none, false⟩,
 ⟨some 6, .fadr 1 (.t 1), .none, false⟩,
 ⟨some 7, .load false 1 (.t 6), .none, false⟩,
 ⟨some 8, .len false (.t 7), .none, false⟩,
 ⟨some 9, .bin .lss (.t 5) (.t 8), .none, false⟩] false [1, 3, 4, 9])
 (.cond (.t 9) (.skip)
 (.exit 0 [3]) [1, 3, 4]))
 (.seq (.block 1 (.reg [⟨some 12, .mv (.t 3), .none, false⟩,
 ⟨some 13, .bin .add (.t 12) (.k (.int .i64 1)), .none, false⟩,
 ⟨some 14, .fadr 1 (.t 1), .none, false⟩,
 ⟨some 15, .load false 1 (.t 14), .none, false⟩,
 ⟨some 16, .mv (.t 4), .none, false⟩,
 ⟨some 17, .iadr 2 .none (.t 15) (.t 16), .none, false⟩,
 ⟨some 18, .fadr 0 (.t 17), .none, false⟩,
 ⟨some 19, .load false 1 (.t 18), .none, false⟩,
 ⟨some 20, .bin .add (.t 13) (.t 19), .none, false⟩,
 ⟨some 3, .asg (.t 20), .none, false⟩] false [1, 3, 4]) [1, 3, 4])
 (.reg [⟨some 10, .mv (.t 4), .none, false⟩,
 ⟨some 11, .bin .add (.t 10) (.k (.int .i64 1)), .none, false⟩,
 ⟨some 4, .asg (.t 11), .none, false⟩] false [1, 3, 4]))
def x49 : XF := ⟨1, 22, [.tmp 2],
  .seq (.reg [⟨some 1, .box (.t 0), .none, false⟩,
 ⟨some 2, .asg (.k (.int .i64 0)), .none, false⟩] false [1])
 (.seq (.reg [⟨some 3, .asg (.k (.int .i64 0)), .none, false⟩] false [1, 3])
 (.seq (.seq (.reg [⟨some 4, .asg (.k (.int .i64 0)), .none, false⟩] false [1, 3, 4])
 (.block 0 (.loop x49_1 [1, 3, 4]) [3]))
 (.seq (.reg [⟨some 21, .mv (.t 3), .none, false⟩,
 ⟨some 2, .asg (.t 21), .none, false⟩] false [2])
 (.ret)))), [], false, false, .none⟩
def x97_1 : XC :=
  .reg [⟨some 3, .fadr 0 (.t 1), .none, false⟩,
 ⟨some 4, .load false 1 (.t 3), .none, false⟩,
 ⟨some 5, .bin .lss (.t 4) (.k (.int .i64 0)), .none, false⟩,
 ⟨some 6, .mv (.t 5), .none, false⟩,
 ⟨some 7, .fadr 0 (.t 1), some (6, false), false⟩,
 ⟨some 8, .load false 1 (.t 7), some (6, false), false⟩,
 ⟨some 9, .bin .gtr (.t 8) (.k (.int .i64 16)), some (6, false), false⟩,
 ⟨some 10, .pick (.t 6) (.k (.bool true)) (.t 9), .none, false⟩,
 ⟨some 11, .mv (.t 10), .none, false⟩,
 ⟨some 12, .fadr 1 (.t 1), some (11, false), false⟩,
 ⟨some 13, .load false 1 (.t 12), some (11, false), false⟩,
 ⟨some 14, .bin .lss (.t 13) (.k (.int .i64 0)), some (11, false), false⟩,
 ⟨some 15, .pick (.t 11) (.k (.bool true)) (.t 14), .none, false⟩,
 ⟨some 16, .mv (.t 15), .none, false⟩,
 ⟨some 17, .fadr 1 (.t 1), some (16, false), false⟩,
 ⟨some 18, .load false 1 (.t 17), some (16, false), false⟩,
 ⟨some 19, .fadr 0 (.t 1), some (16, false), false⟩,
 ⟨some 20, .load false 1 (.t 19), some (16, false), false⟩,
 ⟨some 21, .bin .shl (.k (.int .i64 1)) (.t 20), some (16, false), false⟩,
 ⟨some 22, .bin .geq (.t 18) (.t 21), some (16, false), true⟩,
 ⟨some 23, .pick (.t 16) (.k (.bool true)) (.t 22), .none, true⟩] true [23]
def x97 : XF := ⟨1, 24, [.tmp 2],
  .seq (.reg [⟨some 1, .box (.t 0), .none, false⟩,
 ⟨some 2, .asg (.k (.int .i64 0)), .none, false⟩] false [1])
 (.seq (.seq x97_1
 (.cond (.t 23) (.seq (.reg [⟨some 2, .asg (.k (.int .i64 16)), .none, false⟩] false [2])
 (.ret))
 (.skip) []))
 (.seq (.reg [⟨some 2, .asg (.k (.int .i64 0)), .none, false⟩] false [2])
 (.ret))), [], false, false, .none⟩
def x120 : XF := ⟨0, 2, [.cell 0 true 16],
  .seq (.reg [⟨some 0, .alloc [.int .i64 0, .int .i64 0, .int .i64 0, .int .i64 0, .int .i64 0, .int .i64 0, .int .i64 0, .int .i64 0, .int .i64 0, .int .i64 0, .int .i64 0, .int .i64 0, .int .i64 0, .int .i64 0, .int .i64 0, .int .i64 0], .none, false⟩] false [0])
 (.seq (.reg [⟨some 1, .build [.int .i64 0, .int .i64 0, .int .i64 0, .int .i64 0, .int .i64 0, .int .i64 0, .int .i64 0, .int .i64 0, .int .i64 0, .int .i64 0, .int .i64 0, .int .i64 0, .int .i64 0, .int .i64 0, .int .i64 0, .int .i64 0] [(0, 1, .k (.int .i64 1)), (1, 1, .k (.int .i64 2)), (2, 1, .k (.int .i64 4)), (3, 1, .k (.int .i64 8)), (4, 1, .k (.int .i64 16)), (5, 1, .k (.int .i64 32)), (6, 1, .k (.int .i64 64)), (7, 1, .k (.int .i64 128)), (8, 1, .k (.int .i64 256)), (9, 1, .k (.int .i64 512)), (10, 1, .k (.int .i64 1024)), (11, 1, .k (.int .i64 2048)), (12, 1, .k (.int .i64 4096)), (13, 1, .k (.int .i64 8192)), (14, 1, .k (.int .i64 16384)), (15, 1, .k (.int .i64 32768))], .none, false⟩,
 ⟨.none, .store 16 (.t 0) (.t 1), .none, false⟩] false [0])
 (.ret)), [], false, false, .none⟩
def x98_1 : XC :=
  .reg [⟨some 5, .mv (.t 1), .none, false⟩,
 ⟨some 6, .bin .geq (.t 5) (.k (.int .i64 0)), .none, false⟩,
 ⟨some 7, .mv (.t 6), .none, false⟩,
 ⟨some 8, .mv (.t 1), some (7, true), false⟩,
 ⟨some 9, .fadr 0 (.t 2), some (7, true), false⟩,
 ⟨some 10, .load false 1 (.t 9), some (7, true), false⟩,
 ⟨some 11, .bin .lss (.t 8) (.t 10), some (7, true), false⟩,
 ⟨some 12, .pick (.t 7) (.t 11) (.k (.bool false)), .none, false⟩,
 ⟨some 13, .mv (.t 12), .none, false⟩,
 ⟨some 14, .fadr 1 (.t 2), some (13, true), false⟩,
 ⟨some 15, .load false 1 (.t 14), some (13, true), false⟩,
 ⟨some 16, .call 120 [] [], some (13, true), false⟩,
 ⟨some 17, .mv (.t 1), some (13, true), false⟩,
 ⟨some 18, .idx false 1 16 (.t 16) (.t 17), some (13, true), false⟩,
 ⟨some 19, .bin .and (.t 15) (.t 18), some (13, true), true⟩,
 ⟨some 20, .bin .neq (.t 19) (.k (.int .i64 0)), some (13, true), true⟩,
 ⟨some 21, .pick (.t 13) (.t 20) (.k (.bool false)), .none, true⟩,
 ⟨some 4, .asg (.t 21), .none, true⟩] true [4]
def x98 : XF := ⟨2, 22, [.tmp 4],
  .seq (.reg [⟨some 2, .box (.t 0), .none, false⟩,
 ⟨some 4, .asg (.k (.bool false)), .none, false⟩] false [1, 2])
 (.seq x98_1
 (.ret)), [], false, false, .none⟩
def tt : TT := (.node 75 x75 (.node 46 x46 (.node 32 x32 (.node 29 x29 (.node 23 x23 .leaf .leaf) .leaf) (.node 44 x44 (.node 40 x40 .leaf .leaf) .leaf)) (.node 49 x49 (.node 48 x48 (.node 47 x47 .leaf .leaf) .leaf) (.node 62 x62 .leaf .leaf))) (.node 99 x99 (.node 97 x97 (.node 95 x95 (.node 86 x86 .leaf .leaf) .leaf) (.node 98 x98 .leaf .leaf)) (.node 102 x102 (.node 101 x101 (.node 100 x100 .leaf .leaf) .leaf) (.node 120 x120 .leaf .leaf))))
def T : Nat → Option XF := tt.get
def hintsOf : Nat → List Hint
  | 95 => [⟨[1, 2], 2, false⟩, ⟨[1, 2, 5], 8, false⟩, ⟨[1, 2, 5, 6], 1, false⟩, ⟨[1, 2, 5, 6, 23], 10, false⟩, ⟨[5], 0, false⟩, ⟨[1, 2, 5, 6], 0, false⟩, ⟨[1, 2, 5, 6], 10, false⟩, ⟨[1, 2, 5, 6], 0, false⟩, ⟨[1, 2, 5, 6], 3, false⟩, ⟨[1, 2, 5, 6], 0, false⟩, ⟨[5], 0, false⟩, ⟨[4], 2, false⟩]
  | 44 => [⟨[1], 2, false⟩, ⟨[2], 4, false⟩]
  | 99 => [⟨[0, 1], 1, false⟩, ⟨[0, 1, 16], 12, false⟩, ⟨[4], 1, false⟩, ⟨[0, 1], 0, false⟩, ⟨[0, 1, 19], 3, false⟩, ⟨[4], 2, false⟩, ⟨[0], 0, false⟩, ⟨[4], 2, false⟩]
  | 75 => [⟨[0], 1, false⟩, ⟨[0, 3], 1, false⟩, ⟨[0, 3, 4], 1, false⟩, ⟨[0, 3, 4, 7], 3, false⟩, ⟨[3], 0, false⟩, ⟨[0, 3, 4], 0, false⟩, ⟨[0, 3, 4], 3, false⟩, ⟨[0, 3, 4], 0, false⟩, ⟨[0, 3, 4], 3, false⟩, ⟨[0, 3, 4], 0, false⟩, ⟨[3], 0, false⟩, ⟨[2], 2, false⟩]
  | 62 => [⟨[1], 2, false⟩, ⟨[1, 10], 8, false⟩, ⟨[2], 1, false⟩, ⟨[1], 0, false⟩, ⟨[21], 9, false⟩, ⟨[2], 1, false⟩, ⟨[], 0, false⟩, ⟨[2], 1, false⟩]
  | 23 => [⟨[1, 2], 2, false⟩, ⟨[1, 2, 12], 8, false⟩, ⟨[4], 1, false⟩, ⟨[1, 2], 0, false⟩, ⟨[4], 4, false⟩]
  | 46 => [⟨[1], 2, false⟩, ⟨[1, 14], 7, false⟩, ⟨[2], 1, false⟩, ⟨[1], 0, false⟩, ⟨[1, 3], 1, false⟩, ⟨[1, 3, 4], 1, false⟩, ⟨[1, 3, 4, 19], 5, false⟩, ⟨[1, 3], 0, false⟩, ⟨[1, 3, 4], 0, false⟩, ⟨[1, 3, 4], 8, false⟩, ⟨[1, 3, 4], 0, false⟩, ⟨[1, 3, 4], 3, false⟩, ⟨[1, 3, 4], 0, false⟩, ⟨[1, 3], 0, false⟩, ⟨[1, 3, 30], 2, false⟩, ⟨[2], 1, false⟩, ⟨[1, 3], 0, false⟩, ⟨[1, 3, 5], 1, false⟩, ⟨[1, 3, 5, 35], 5, false⟩, ⟨[1, 3], 0, false⟩, ⟨[1, 3, 5], 0, false⟩, ⟨[1, 3, 5, 6], 7, false⟩, ⟨[1, 3, 5, 6, 56], 12, false⟩, ⟨[2], 1, false⟩, ⟨[1, 3, 5, 6], 0, false⟩, ⟨[1, 3, 5, 6, 59], 3, false⟩, ⟨[2], 1, false⟩, ⟨[1, 3, 5, 6], 0, false⟩, ⟨[1, 3, 5, 6, 7], 1, false⟩, ⟨[1, 3, 5, 6, 7, 63], 4, false⟩, ⟨[1, 3, 5], 0, false⟩, ⟨[1, 3, 5, 6, 7], 0, false⟩, ⟨[1, 3, 5, 6, 7, 68], 3, false⟩, ⟨[1, 3, 5, 6, 7], 11, false⟩, ⟨[1, 3, 5, 6, 7], 0, false⟩, ⟨[1, 3, 5, 6, 7], 0, false⟩, ⟨[1, 3, 5, 6, 7], 3, false⟩, ⟨[1, 3, 5, 6, 7], 0, false⟩, ⟨[1, 3, 5], 0, false⟩, ⟨[1, 3, 5, 80], 2, false⟩, ⟨[2], 1, false⟩, ⟨[1, 3, 5], 0, false⟩, ⟨[1, 3, 5], 0, false⟩, ⟨[1, 3, 5], 3, false⟩, ⟨[1, 3, 5], 0, false⟩, ⟨[1, 3], 0, false⟩, ⟨[85], 5, false⟩, ⟨[2], 1, false⟩, ⟨[], 0, false⟩, ⟨[2], 1, false⟩]
  | 100 => [⟨[0, 1], 1, false⟩, ⟨[0, 1, 10], 5, false⟩, ⟨[4], 1, false⟩, ⟨[0, 1], 0, false⟩, ⟨[0, 1, 12, 13], 3, false⟩, ⟨[0, 1, 12, 13, 14], 1, false⟩, ⟨[], 0, false⟩, ⟨[0, 1, 12, 13], 0, false⟩, ⟨[0, 1, 5, 12, 13], 2, false⟩, ⟨[0, 1, 12, 13, 24], 8, false⟩, ⟨[4], 1, false⟩, ⟨[0, 1, 12, 13], 0, false⟩, ⟨[0, 1, 12, 13], 0, false⟩, ⟨[0, 1, 12, 13], 2, false⟩, ⟨[0, 1, 12, 13], 0, false⟩, ⟨[], 0, false⟩, ⟨[4], 1, false⟩]
  | 101 => [⟨[0, 1], 1, false⟩, ⟨[0, 1, 10], 5, false⟩, ⟨[4], 1, false⟩, ⟨[0, 1], 0, false⟩, ⟨[0, 1, 12, 13], 3, false⟩, ⟨[0, 1, 12, 13, 14], 1, false⟩, ⟨[], 0, false⟩, ⟨[0, 1, 12, 13], 0, false⟩, ⟨[0, 1, 5, 12, 13], 2, false⟩, ⟨[0, 1, 12, 13, 24], 8, false⟩, ⟨[4], 1, false⟩, ⟨[0, 1, 12, 13], 0, false⟩, ⟨[0, 1, 12, 13], 0, false⟩, ⟨[0, 1, 12, 13], 2, false⟩, ⟨[0, 1, 12, 13], 0, false⟩, ⟨[], 0, false⟩, ⟨[4], 1, false⟩]
  | 102 => [⟨[0, 1], 1, false⟩, ⟨[0, 1, 10], 5, false⟩, ⟨[4], 1, false⟩, ⟨[0, 1], 0, false⟩, ⟨[0, 1, 12, 13], 3, false⟩, ⟨[0, 1, 12, 13, 14], 1, false⟩, ⟨[], 0, false⟩, ⟨[0, 1, 12, 13], 0, false⟩, ⟨[0, 1, 5, 12, 13], 2, false⟩, ⟨[0, 1, 12, 13, 24], 8, false⟩, ⟨[4], 1, false⟩, ⟨[0, 1, 12, 13], 0, false⟩, ⟨[0, 1, 12, 13], 0, false⟩, ⟨[0, 1, 12, 13], 2, false⟩, ⟨[0, 1, 12, 13], 0, false⟩, ⟨[], 0, false⟩, ⟨[4], 1, false⟩]
  | 47 => [⟨[2, 3], 3, false⟩, ⟨[2, 3, 28], 23, false⟩, ⟨[4], 1, false⟩, ⟨[2, 3], 0, false⟩, ⟨[2, 3, 31, 32], 4, false⟩, ⟨[2, 3, 31, 32, 33], 1, false⟩, ⟨[], 0, false⟩, ⟨[2, 3, 31, 32], 0, false⟩, ⟨[2, 3, 5, 31, 32], 2, false⟩, ⟨[2, 3, 31, 32, 46], 10, false⟩, ⟨[4], 1, false⟩, ⟨[2, 3, 31, 32], 0, false⟩, ⟨[2, 3, 31, 32], 0, false⟩, ⟨[2, 3, 31, 32], 2, false⟩, ⟨[2, 3, 31, 32], 0, false⟩, ⟨[], 0, false⟩, ⟨[4], 1, false⟩]
  | 29 => [⟨[0, 1], 1, false⟩, ⟨[0, 1, 10], 5, false⟩, ⟨[4], 1, false⟩, ⟨[0, 1], 0, false⟩, ⟨[0, 1, 5], 1, false⟩, ⟨[0, 1, 5, 14], 4, false⟩, ⟨[], 0, false⟩, ⟨[0, 1, 5], 0, false⟩, ⟨[0, 1, 5, 25], 8, false⟩, ⟨[4], 1, false⟩, ⟨[0, 1, 5], 0, false⟩, ⟨[0, 1, 5], 0, false⟩, ⟨[0, 1, 5], 3, false⟩, ⟨[0, 1, 5], 0, false⟩, ⟨[], 0, false⟩, ⟨[4], 1, false⟩]
  | 86 => [⟨[0, 1], 1, false⟩, ⟨[0, 1, 10], 5, false⟩, ⟨[4], 1, false⟩, ⟨[0, 1], 0, false⟩, ⟨[0, 1, 5], 1, false⟩, ⟨[0, 1, 5, 14], 4, false⟩, ⟨[], 0, false⟩, ⟨[0, 1, 5], 0, false⟩, ⟨[0, 1, 5, 25], 8, false⟩, ⟨[4], 1, false⟩, ⟨[0, 1, 5], 0, false⟩, ⟨[0, 1, 5], 0, false⟩, ⟨[0, 1, 5], 3, false⟩, ⟨[0, 1, 5], 0, false⟩, ⟨[], 0, false⟩, ⟨[4], 1, false⟩]
  | 32 => [⟨[0, 1], 1, false⟩, ⟨[4], 11, false⟩]
  | 40 => [⟨[2, 3], 3, false⟩, ⟨[2, 3, 30], 24, false⟩, ⟨[4], 1, false⟩, ⟨[2, 3], 0, false⟩, ⟨[2, 3, 5], 1, false⟩, ⟨[2, 3, 5, 35], 5, false⟩, ⟨[2, 3], 0, false⟩, ⟨[2, 3, 5], 0, false⟩, ⟨[2, 3, 5, 48], 10, false⟩, ⟨[4], 1, false⟩, ⟨[2, 3, 5], 0, false⟩, ⟨[2, 3, 5], 0, false⟩, ⟨[2, 3, 5], 3, false⟩, ⟨[2, 3, 5], 0, false⟩, ⟨[2, 3], 0, false⟩, ⟨[2, 3, 6], 1, false⟩, ⟨[2, 3, 6, 53], 5, false⟩, ⟨[], 0, false⟩, ⟨[2, 3, 6], 0, false⟩, ⟨[2, 3, 6, 67], 10, false⟩, ⟨[4], 1, false⟩, ⟨[2, 3, 6], 0, false⟩, ⟨[2, 3, 6], 0, false⟩, ⟨[2, 3, 6], 3, false⟩, ⟨[2, 3, 6], 0, false⟩, ⟨[], 0, false⟩, ⟨[4], 1, false⟩]
  | 48 => [⟨[1], 2, false⟩, ⟨[1, 3], 1, false⟩, ⟨[1, 3, 7, 8, 9], 4, false⟩, ⟨[1, 3, 7, 8, 9, 10], 1, false⟩, ⟨[3], 0, false⟩, ⟨[1, 3, 7, 8, 9], 0, false⟩, ⟨[1, 3, 5, 7, 8, 9], 4, false⟩, ⟨[1, 3, 7, 8, 9], 6, false⟩, ⟨[1, 3, 7, 8, 9], 0, false⟩, ⟨[1, 3, 7, 8, 9], 2, false⟩, ⟨[1, 3, 7, 8, 9], 0, false⟩, ⟨[3], 0, false⟩, ⟨[2], 2, false⟩]
  | 49 => [⟨[1], 2, false⟩, ⟨[1, 3], 1, false⟩, ⟨[1, 3, 4], 1, false⟩, ⟨[1, 3, 4, 9], 5, false⟩, ⟨[3], 0, false⟩, ⟨[1, 3, 4], 0, false⟩, ⟨[1, 3, 4], 10, false⟩, ⟨[1, 3, 4], 0, false⟩, ⟨[1, 3, 4], 3, false⟩, ⟨[1, 3, 4], 0, false⟩, ⟨[3], 0, false⟩, ⟨[2], 2, false⟩]
  | 97 => [⟨[1], 2, false⟩, ⟨[23], 19, false⟩, ⟨[2], 1, false⟩, ⟨[], 0, false⟩, ⟨[2], 1, false⟩]
  | 120 => [⟨[0], 1, false⟩, ⟨[0], 2, false⟩]
  | 98 => [⟨[1, 2], 2, false⟩, ⟨[4], 14, false⟩]
  | _ => []
end Go.Ab

/-
  Printed by gen.py.
-/
namespace Go.Ab
open Go
set_option linter.unusedVariables false
set_option linter.unusedSimpArgs false
set_option maxRecDepth 100000
set_option maxHeartbeats 4000000
/-- function f of the program is x -/
def Ok1 (P : Program) (f : Nat) (x : XF) : Prop := x.ext = Option.none ∧ ∃ fn code hints, P.funcs[f]? = some fn ∧ (fn.name == "runtime.NumGoroutine") = false ∧ fn.body = some code ∧ x.np ≤ fn.ntmps ∧ trC P (fun d => decide (d < fn.ntmps) && !x.prot.contains d) code hints = some (x.body, []) ∧ trRs P fn.results.toList = some x.res
theorem tok23 : Ok1 Go.Proofs.Try.prog 23 x23 := ⟨rfl, Go.Proofs.Try.f23, _, hintsOf 23, Go.Proofs.Try.func23, by kernel_rfl, rfl, by decide, by kernel_rfl, by kernel_rfl⟩
theorem tok29 : Ok1 Go.Proofs.Try.prog 29 x29 := ⟨rfl, Go.Proofs.Try.f29, _, hintsOf 29, Go.Proofs.Try.func29, by kernel_rfl, rfl, by decide, by kernel_rfl, by kernel_rfl⟩
theorem tok32 : Ok1 Go.Proofs.Try.prog 32 x32 := ⟨rfl, Go.Proofs.Try.f32, _, hintsOf 32, Go.Proofs.Try.func32, by kernel_rfl, rfl, by decide, by kernel_rfl, by kernel_rfl⟩
theorem tok40 : Ok1 Go.Proofs.Try.prog 40 x40 := ⟨rfl, Go.Proofs.Try.f40, _, hintsOf 40, Go.Proofs.Try.func40, by kernel_rfl, rfl, by decide, by kernel_rfl, by kernel_rfl⟩
theorem tok44 : Ok1 Go.Proofs.Try.prog 44 x44 := ⟨rfl, Go.Proofs.Try.f44, _, hintsOf 44, Go.Proofs.Try.func44, by kernel_rfl, rfl, by decide, by kernel_rfl, by kernel_rfl⟩
theorem tok46 : Ok1 Go.Proofs.Try.prog 46 x46 := ⟨rfl, Go.Proofs.Try.f46, _, hintsOf 46, Go.Proofs.Try.func46, by kernel_rfl, rfl, by decide, by kernel_rfl, by kernel_rfl⟩
theorem tok47 : Ok1 Go.Proofs.Try.prog 47 x47 := ⟨rfl, Go.Proofs.Try.f47, _, hintsOf 47, Go.Proofs.Try.func47, by kernel_rfl, rfl, by decide, by kernel_rfl, by kernel_rfl⟩
theorem tok48 : Ok1 Go.Proofs.Try.prog 48 x48 := ⟨rfl, Go.Proofs.Try.f48, _, hintsOf 48, Go.Proofs.Try.func48, by kernel_rfl, rfl, by decide, by kernel_rfl, by kernel_rfl⟩
theorem tok49 : Ok1 Go.Proofs.Try.prog 49 x49 := ⟨rfl, Go.Proofs.Try.f49, _, hintsOf 49, Go.Proofs.Try.func49, by kernel_rfl, rfl, by decide, by kernel_rfl, by kernel_rfl⟩
theorem tok62 : Ok1 Go.Proofs.Try.prog 62 x62 := ⟨rfl, Go.Proofs.Try.f62, _, hintsOf 62, Go.Proofs.Try.func62, by kernel_rfl, rfl, by decide, by kernel_rfl, by kernel_rfl⟩
theorem tok75 : Ok1 Go.Proofs.Try.prog 75 x75 := ⟨rfl, Go.Proofs.Try.f75, _, hintsOf 75, Go.Proofs.Try.func75, by kernel_rfl, rfl, by decide, by kernel_rfl, by kernel_rfl⟩
theorem tok86 : Ok1 Go.Proofs.Try.prog 86 x86 := ⟨rfl, Go.Proofs.Try.f86, _, hintsOf 86, Go.Proofs.Try.func86, by kernel_rfl, rfl, by decide, by kernel_rfl, by kernel_rfl⟩
theorem tok95 : Ok1 Go.Proofs.Try.prog 95 x95 := ⟨rfl, Go.Proofs.Try.f95, _, hintsOf 95, Go.Proofs.Try.func95, by kernel_rfl, rfl, by decide, by kernel_rfl, by kernel_rfl⟩
theorem tok97 : Ok1 Go.Proofs.Try.prog 97 x97 := ⟨rfl, Go.Proofs.Try.f97, _, hintsOf 97, Go.Proofs.Try.func97, by kernel_rfl, rfl, by decide, by kernel_rfl, by kernel_rfl⟩
theorem tok98 : Ok1 Go.Proofs.Try.prog 98 x98 := ⟨rfl, Go.Proofs.Try.f98, _, hintsOf 98, Go.Proofs.Try.func98, by kernel_rfl, rfl, by decide, by kernel_rfl, by kernel_rfl⟩
theorem tok99 : Ok1 Go.Proofs.Try.prog 99 x99 := ⟨rfl, Go.Proofs.Try.f99, _, hintsOf 99, Go.Proofs.Try.func99, by kernel_rfl, rfl, by decide, by kernel_rfl, by kernel_rfl⟩
theorem tok100 : Ok1 Go.Proofs.Try.prog 100 x100 := ⟨rfl, Go.Proofs.Try.f100, _, hintsOf 100, Go.Proofs.Try.func100, by kernel_rfl, rfl, by decide, by kernel_rfl, by kernel_rfl⟩
theorem tok101 : Ok1 Go.Proofs.Try.prog 101 x101 := ⟨rfl, Go.Proofs.Try.f101, _, hintsOf 101, Go.Proofs.Try.func101, by kernel_rfl, rfl, by decide, by kernel_rfl, by kernel_rfl⟩
theorem tok102 : Ok1 Go.Proofs.Try.prog 102 x102 := ⟨rfl, Go.Proofs.Try.f102, _, hintsOf 102, Go.Proofs.Try.func102, by kernel_rfl, rfl, by decide, by kernel_rfl, by kernel_rfl⟩
theorem tok120 : Ok1 Go.Proofs.Try.prog 120 x120 := ⟨rfl, Go.Proofs.Try.f120, _, hintsOf 120, Go.Proofs.Try.func120, by kernel_rfl, rfl, by decide, by kernel_rfl, by kernel_rfl⟩
theorem tok : TOk Go.Proofs.Try.prog T := fun f x hx => TT.get_all (t := tt) (Q := fun f x => (∃ k, x.ext = some k ∧ CallOk1 Go.Proofs.Try.prog f (extSem k)) ∨ Ok1 Go.Proofs.Try.prog f x) ⟨.inr tok75, ⟨.inr tok46, ⟨.inr tok32, ⟨.inr tok29, ⟨.inr tok23, trivial, trivial⟩, trivial⟩, ⟨.inr tok44, ⟨.inr tok40, trivial, trivial⟩, trivial⟩⟩, ⟨.inr tok49, ⟨.inr tok48, ⟨.inr tok47, trivial, trivial⟩, trivial⟩, ⟨.inr tok62, trivial, trivial⟩⟩⟩, ⟨.inr tok99, ⟨.inr tok97, ⟨.inr tok95, ⟨.inr tok86, trivial, trivial⟩, trivial⟩, ⟨.inr tok98, trivial, trivial⟩⟩, ⟨.inr tok102, ⟨.inr tok101, ⟨.inr tok100, trivial, trivial⟩, trivial⟩, ⟨.inr tok120, trivial, trivial⟩⟩⟩⟩ f x hx
theorem mixed : Go.Proofs.Try.prog.follows .mixedOrders = true := by kernel_rfl
end Go.Ab

/-
  Printed by gen.py.
-/
namespace Go.Ab
open Go
set_option linter.unusedVariables false
set_option linter.unusedSimpArgs false
set_option maxRecDepth 100000
set_option maxHeartbeats 4000000
open Go.ChangeShapes Go.WideShapes Go.ChangeAt Go.RowKit
theorem own : ownKnob Go.Proofs.Try.prog.godebug = none := by kernel_rfl
theorem laidOut : laidOutB Go.Proofs.Try.prog = true := by kernel_rfl
def RShape (x : Shape) : Prop := Rng .i64 x.Slots ∧ Rng .i64 x.Mask
theorem opnShape (n : Nat) : Opn Go.Proofs.Try.prog (n + 2) 43 cShape RShape := by
  intro H d pvs h hw
  obtain ⟨ds, g0⟩ := pv_struct Go.Proofs.Try.underlying43 h hw
  clear h hw
  obtain ⟨d1, ds1, a1, b1, rfl, h1, g1, rfl⟩ := zipL_cons g0
  obtain ⟨d2, ds2, a2, b2, rfl, h2, g2, rfl⟩ := zipL_cons g1
  obtain rfl := zipL_nil g2
  obtain ⟨x1, rfl, r1⟩ := (opn_int (n := n + 0) Go.Proofs.Try.underlying3 : Opn Go.Proofs.Try.prog (n + 1) 3 (cint .i64) (Rng .i64)) H d1 a1 h1.1 h1.2
  obtain ⟨x2, rfl, r2⟩ := (opn_int (n := n + 0) Go.Proofs.Try.underlying3 : Opn Go.Proofs.Try.prog (n + 1) 3 (cint .i64) (Rng .i64)) H d2 a2 h2.1 h2.2
  exact ⟨⟨x1, x2⟩, rfl, r1, r2⟩
def RForm (x : Form) : Prop := (x.Roots.length < 140737488355328 ∧ ∀ y ∈ x.Roots, Rng .i64 y) ∧ (x.Shapes.length < 140737488355328 ∧ ∀ y ∈ x.Shapes, RShape y) ∧ (x.Slots.length < 140737488355328 ∧ ∀ y ∈ x.Slots, y.length < 140737488355328 ∧ ∀ y1 ∈ y, Rng .i64 y1)
theorem opnForm (n : Nat) : Opn Go.Proofs.Try.prog (n + 4) 82 cForm RForm := by
  intro H d pvs h hw
  obtain ⟨ds, g0⟩ := pv_struct Go.Proofs.Try.underlying82 h hw
  clear h hw
  obtain ⟨d1, ds1, a1, b1, rfl, h1, g1, rfl⟩ := zipL_cons g0
  obtain ⟨d2, ds2, a2, b2, rfl, h2, g2, rfl⟩ := zipL_cons g1
  obtain ⟨d3, ds3, a3, b3, rfl, h3, g3, rfl⟩ := zipL_cons g2
  obtain rfl := zipL_nil g3
  obtain ⟨x1, rfl, r1⟩ := (opn_sl (n := n + 2) Go.Proofs.Try.underlying39 (by decide +kernel) (opn_int (n := n + 1) Go.Proofs.Try.underlying3) : Opn Go.Proofs.Try.prog (n + 3) 39 (csl (cint .i64)) (fun xs => xs.length < 140737488355328 ∧ ∀ x ∈ xs, (Rng .i64) x)) H d1 a1 h1.1 h1.2
  obtain ⟨x2, rfl, r2⟩ := (opn_sl (n := n + 2) Go.Proofs.Try.underlying79 (by decide +kernel) (opnShape (n + 0)) : Opn Go.Proofs.Try.prog (n + 3) 79 (csl cShape) (fun xs => xs.length < 140737488355328 ∧ ∀ x ∈ xs, RShape x)) H d2 a2 h2.1 h2.2
  obtain ⟨x3, rfl, r3⟩ := (opn_sl (n := n + 2) Go.Proofs.Try.underlying80 (by decide +kernel) (opn_sl (n := n + 1) Go.Proofs.Try.underlying32 (by decide +kernel) (opn_int (n := n + 0) Go.Proofs.Try.underlying2)) : Opn Go.Proofs.Try.prog (n + 3) 80 (csl (csl (cint .i64))) (fun xs => xs.length < 140737488355328 ∧ ∀ x ∈ xs, (fun xs => xs.length < 140737488355328 ∧ ∀ x ∈ xs, (Rng .i64) x) x)) H d3 a3 h3.1 h3.2
  exact ⟨⟨x1, x2, x3⟩, rfl, r1, r2, r3⟩
theorem readCanonChecks (H : Type) (ds : List (DataW H)) (ws : List PV) (h : argsPV Go.Proofs.Try.prog 12 [82, 82] ds = some ws ∧ ∀ x ∈ DataW.weightsEach Go.Proofs.Try.prog [82, 82] ds, x ≤ reachBytes) : ∃ (x1 : Form) (x2 : Form), (RForm x1) ∧ (RForm x2) ∧ ws = [.agg [.sl x1.Roots.length (x1.Roots.flatMap (cint .i64)), .sl x1.Shapes.length (x1.Shapes.flatMap cShape), .sl x1.Slots.length (x1.Slots.flatMap (csl (cint .i64)))], .agg [.sl x2.Roots.length (x2.Roots.flatMap (cint .i64)), .sl x2.Shapes.length (x2.Shapes.flatMap cShape), .sl x2.Slots.length (x2.Slots.flatMap (csl (cint .i64)))]] := by
  obtain ⟨d1, ds1, w1, ws1, rfl, rfl, h1, h⟩ := args_cons h
  obtain ⟨d2, ds2, w2, ws2, rfl, rfl, h2, h⟩ := args_cons h
  obtain ⟨rfl, rfl⟩ := args_nil h
  obtain ⟨x1, rfl, r1⟩ := arg_agg (by kernel_rfl) (opnForm 8) h1
  obtain ⟨x2, rfl, r2⟩ := arg_agg (by kernel_rfl) (opnForm 8) h2
  exact ⟨x1, x2, r1, r2, rfl⟩
end Go.Ab

/-
  Going through code step by step.
-/
namespace Go.Ab
open Go
set_option linter.unusedVariables false
section
variable {C : Calls'} {E E1 E2 E3 : Env} {ex : Ex} {k : List Nat}

theorem w_seq {a b : XC} {R : Option (Ex × Env)} (h : evX C a E = some (ex, E1)) (h2 : seqK (some (ex, E1)) (evX C b) = R) : evX C (.seq a b) E = R := by
  rw [evX_seq, h]; exact h2
theorem w_go {f : Env → Option (Ex × Env)} {R : Option (Ex × Env)} (h : f E = R) : seqK (some (.norm, E)) f = R := h
theorem w_gox {f : Env → Option (Ex × Env)} {i : Nat} : seqK (some (.exit i, E)) f = some (.exit i, E) := rfl
theorem w_gor {f : Env → Option (Ex × Env)} : seqK (some (.ret, E)) f = some (.ret, E) := rfl
theorem w_skip : evX C .skip E = some (.norm, E) := evX_skip
theorem w_ret : evX C .ret E = some (.ret, E) := evX_ret
theorem w_exit {i : Nat} (h : E.keep k = E1) : evX C (.exit i k) E = some (.exit i, E1) := by rw [evX_exit, h]
theorem w_reg {ops : List XI} (h : steps C E ops = some E1) (h2 : E1.keep k = E2) : evX C (.reg ops false k) E = some (.norm, E2) := by
  rw [evX_reg, h]; simp [h2]
theorem w_nil : steps C E [] = some E := rfl
theorem w_cons {o : XI} {r : List XI} (h : step C E o = some E1) (h2 : steps C E1 r = some E2) : steps C E (o :: r) = some E2 := by
  simp only [steps, h]; exact h2
theorem w_regD {ops : List XI} {ds : List Nat} (h0 : dstsOf ops = ds) (h1 : (E.all fun x => noRefs ds x.2 && !ds.contains x.1) = true) (h : stepsD C E.sub ds E ops = some E1) (h2 : E1.keep k = E2) : evX C (.reg ops true k) E = some (.norm, E2) := by
  subst h0
  rw [evX_regD]
  simp only [regD]
  rw [if_pos h1, h]; simp [h2]
theorem w_nilD {S : Subs} {ds : List Nat} : stepsD C S ds E [] = some E := rfl
theorem w_consD {S : Subs} {ds : List Nat} {o : XI} {r : List XI} {d : Nat} {v : PV} (hb : o.bar = false) (h : stepD C S ds E o = some (d, v)) (hg : E.get d = .none) (hs : E.set d v = E1) (h2 : stepsD C S ds E1 r = some E2) : stepsD C S ds E (o :: r) = some E2 := by
  simp only [stepsD, hb, Bool.false_eq_true, if_false, h, hg, hs]; exact h2
theorem w_barD {S : Subs} {ds : List Nat} {o : XI} {r : List XI} (hb : o.bar = true) (ha : r.all (·.bar) = true) (h : steps C E (o :: r) = some E2) : stepsD C S ds E (o :: r) = some E2 := by
  simp only [stepsD, hb, if_true, ha]; exact h
theorem w_condt {c : XO} {a b : XC} {R : Option (Ex × Env)} (h : look E c = .bool true) (h1 : evX C a E = some (ex, E1)) (h2 : fgt k (some (ex, E1)) = R) : evX C (.cond c a b k) E = R := by
  rw [evX_cond, h, condK, h1]; exact h2
theorem w_condf {c : XO} {a b : XC} {R : Option (Ex × Env)} (h : look E c = .bool false) (h1 : evX C b E = some (ex, E1)) (h2 : fgt k (some (ex, E1)) = R) : evX C (.cond c a b k) E = R := by
  rw [evX_cond, h, condK, h1]; exact h2
theorem w_block {b : XC} {i : Nat} {R : Option (Ex × Env)} (h1 : evX C b E = some (ex, E1)) (h2 : fgt k (blockK i (some (ex, E1))) = R) : evX C (.block i b k) E = R := by
  rw [evX_block, h1]; exact h2
theorem w_fgt {b : XC} {R : Option (Ex × Env)} (h1 : evX C b E = some (ex, E1)) (h2 : fgt k (some (ex, E1)) = R) : fgt k (evX C b E) = R := by
  rw [h1]; exact h2
theorem w_fn {x : XF} {ws : List PV} {c : XC} {r : Option (PV × List PV)} (hc : x.body = c) (hp : params 0 (argsIn x.nk ws) = E) (h : evX C c E = some (ex, E1)) (h2 : retK x ws (some (ex, E1)) = r) : retK x ws (evX C x.body (params 0 (argsIn x.nk ws))) = r := by
  rw [hc, hp, h]; exact h2
end
end Go.Ab

/-
  Printed by gen.py.
-/
namespace Go.Ab
open Go
set_option linter.unusedVariables false
set_option linter.unusedSimpArgs false
set_option maxRecDepth 100000
set_option maxHeartbeats 4000000
theorem r28_Weight_j2_ok (p0 : Form) (p1 : Int) (n1 : Int) (i2 : Int) : evX (evI T) x95_1 [(1, .int .i64 p1), (2, .box [.sl p0.Roots.length (p0.Roots.flatMap (cint .i64)), .sl p0.Shapes.length (p0.Shapes.flatMap cShape), .sl p0.Slots.length (p0.Slots.flatMap (csl (cint .i64)))]), (5, .int .i64 n1), (6, .int .i64 i2)] = some (.norm, [(1, .int .i64 p1), (2, .box [.sl p0.Roots.length (p0.Roots.flatMap (cint .i64)), .sl p0.Shapes.length (p0.Shapes.flatMap cShape), .sl p0.Slots.length (p0.Slots.flatMap (csl (cint .i64)))]), (5, .int .i64 n1), (6, .int .i64 i2), (23, .bool (((decide (i2 < ((p0.Slots.length : Int)))) && (decide (n1 ≤ p1)))))]) := by
  rcases Bool.eq_false_or_eq_true (decide (i2 < ((p0.Slots.length : Int)))) with h1 | h1
  · refine' (w_reg (w_cons ?_ (w_cons ?_ (w_cons ?_ (w_cons ?_ (w_cons ?_ (w_cons ?_ (w_cons ?_ (w_cons ?_ (w_cons ?_ (w_cons ?_ w_nil)))))))))) ?_)
    all_goals (first | (simp only [nz, rn, nzShape, nzForm, h1, Int.reduceLT, Int.reduceEq, List.contains_cons, List.contains_nil, Option.map_some, Option.map_none, reduceIte, reduceCtorEq, Nat.reduceEqDiff, Nat.reduceLT, Nat.reduceBEq, Nat.reduceAdd, Nat.reduceMul, Nat.reduceLeDiff, Nat.reduceSub, Bool.false_eq_true]; try rfl) | skip)
  · refine' (w_reg (w_cons ?_ (w_cons ?_ (w_cons ?_ (w_cons ?_ (w_cons ?_ (w_cons ?_ (w_cons ?_ (w_cons ?_ (w_cons ?_ (w_cons ?_ w_nil)))))))))) ?_)
    all_goals (first | (simp only [nz, rn, nzShape, nzForm, h1, Int.reduceLT, Int.reduceEq, List.contains_cons, List.contains_nil, Option.map_some, Option.map_none, reduceIte, reduceCtorEq, Nat.reduceEqDiff, Nat.reduceLT, Nat.reduceBEq, Nat.reduceAdd, Nat.reduceMul, Nat.reduceLeDiff, Nat.reduceSub, Bool.false_eq_true]; try rfl) | skip)
theorem r28_Weight_l3_bok (p0 : Form) (p1 : Int) (n1 : Int) (i2 : Int) : Sim (r28_Weight_l3_b p0 p1 n1 i2) fun x => fgt [1, 2, 5, 6] (evX (evI T) x95_2 [(1, .int .i64 p1), (2, .box [.sl p0.Roots.length (p0.Roots.flatMap (cint .i64)), .sl p0.Shapes.length (p0.Shapes.flatMap cShape), .sl p0.Slots.length (p0.Slots.flatMap (csl (cint .i64)))]), (5, .int .i64 n1), (6, .int .i64 i2)]) = some (stpK (fun s => (.norm, [(1, .int .i64 p1), (2, .box [.sl p0.Roots.length (p0.Roots.flatMap (cint .i64)), .sl p0.Shapes.length (p0.Shapes.flatMap cShape), .sl p0.Slots.length (p0.Slots.flatMap (csl (cint .i64)))]), (5, .int .i64 s.1), (6, .int .i64 s.2)])) (fun r => (.exit 0, [(5, .int .i64 r)])) x) := by
  unfold r28_Weight_l3_b
  have f3 := r28_Weight_j2_ok p0 p1 n1 i2
  refine sim_if (fun h4 => ?_) (fun h4 => ?_)
  · refine sim_bind (fun x_4 h5 => ?_)
    have f6 := ix_ok h5
    have f6o := ix_own2 h5
    have f7 := ix_cells (sz_sl (cint .i64)) h5
    simp only [nz, nzShape, nzForm] at f7
    refine sim_some ?_
    try simp only [nz, nzShape, nzForm] at f3
    all_goals
      refine' (w_fgt (w_seq (w_seq f3 (w_go (w_condt ?_ w_skip ?_))) (w_go (w_seq (w_block (w_reg (w_cons ?_ (w_cons ?_ (w_cons ?_ (w_cons ?_ (w_cons ?_ (w_cons ?_ (w_cons ?_ (w_cons ?_ (w_cons ?_ (w_cons ?_ w_nil)))))))))) ?_) ?_) (w_go (w_reg (w_cons ?_ (w_cons ?_ (w_cons ?_ w_nil))) ?_))))) ?_)
      all_goals (first | (simp only [nz, rn, nzShape, nzForm, h4, f6, f6o, f7, Int.reduceLT, Int.reduceEq, List.contains_cons, List.contains_nil, Option.map_some, Option.map_none, reduceIte, reduceCtorEq, Nat.reduceEqDiff, Nat.reduceLT, Nat.reduceBEq, Nat.reduceAdd, Nat.reduceMul, Nat.reduceLeDiff, Nat.reduceSub, Bool.false_eq_true]; try rfl) | skip)
  · refine sim_some ?_
    try simp only [nz, nzShape, nzForm] at f3
    all_goals
      refine' (w_fgt (w_seq (w_seq f3 (w_go (w_condf ?_ (w_exit ?_) ?_))) w_gox) ?_)
      all_goals (first | (simp only [nz, rn, nzShape, nzForm, h4, Int.reduceLT, Int.reduceEq, List.contains_cons, List.contains_nil, Option.map_some, Option.map_none, reduceIte, reduceCtorEq, Nat.reduceEqDiff, Nat.reduceLT, Nat.reduceBEq, Nat.reduceAdd, Nat.reduceMul, Nat.reduceLeDiff, Nat.reduceSub, Bool.false_eq_true]; try rfl) | skip)
theorem r28_Weight_l3_ok (p0 : Form) (p1 : Int) (s : Int × Int) : Sim (r28_Weight_l3 p0 p1 s) fun r => evX (evI T) (.loop x95_2 [1, 2, 5, 6]) [(1, .int .i64 p1), (2, .box [.sl p0.Roots.length (p0.Roots.flatMap (cint .i64)), .sl p0.Shapes.length (p0.Shapes.flatMap cShape), .sl p0.Slots.length (p0.Slots.flatMap (csl (cint .i64)))]), (5, .int .i64 s.1), (6, .int .i64 s.2)] = some (.exit 0, [(5, .int .i64 r)]) := by
  unfold r28_Weight_l3
  exact loop_rule (C := evI T) (b := x95_2) (ks := [1, 2, 5, 6]) (σ := Int × Int) (ρ := Int) (body := fun s => r28_Weight_l3_b p0 p1 s.1 s.2) (E := fun s => [(1, .int .i64 p1), (2, .box [.sl p0.Roots.length (p0.Roots.flatMap (cint .i64)), .sl p0.Shapes.length (p0.Shapes.flatMap cShape), .sl p0.Slots.length (p0.Slots.flatMap (csl (cint .i64)))]), (5, .int .i64 s.1), (6, .int .i64 s.2)]) (R := fun r => (.exit 0, [(5, .int .i64 r)])) (fun r h => nomatch h) (fun s => r28_Weight_l3_bok p0 p1 s.1 s.2) s
theorem r28_Weight_ok (p0 : Form) (p1 : Int) : Sim (r28_Weight p0 p1) fun r => evI T 95 [.agg [.sl p0.Roots.length (p0.Roots.flatMap (cint .i64)), .sl p0.Shapes.length (p0.Shapes.flatMap cShape), .sl p0.Slots.length (p0.Slots.flatMap (csl (cint .i64)))], .int .i64 p1] = some (.int .i64 r, [.none, .none]) := by
  unfold r28_Weight
  refine sim_bind (fun n5 h8 => ?_)
  have f9 := r28_Weight_l3_ok p0 p1 (IntKind.wrap .i64 (((p0.Roots.length : Int)) + ((p0.Shapes.length : Int))), 0) _ h8
  dsimp only at f9
  refine sim_some ?_
  refine evI_ret (x := x95) rfl rfl rfl ?_
  try simp only [nz, nzShape, nzForm] at f9
  all_goals
    refine' (w_fn rfl rfl (w_seq (w_reg (w_cons ?_ (w_cons ?_ w_nil)) ?_) (w_go (w_seq (w_reg (w_cons ?_ (w_cons ?_ (w_cons ?_ (w_cons ?_ (w_cons ?_ (w_cons ?_ (w_cons ?_ (w_cons ?_ w_nil)))))))) ?_) (w_go (w_seq (w_seq (w_reg (w_cons ?_ w_nil) ?_) (w_go (w_block f9 ?_))) (w_go (w_seq (w_reg (w_cons ?_ (w_cons ?_ w_nil)) ?_) (w_go w_ret)))))))) ?_)
    all_goals (first | (simp only [x95, nz, rn, nzShape, nzForm, Int.reduceLT, Int.reduceEq, List.contains_cons, List.contains_nil, Option.map_some, Option.map_none, reduceIte, reduceCtorEq, Nat.reduceEqDiff, Nat.reduceLT, Nat.reduceBEq, Nat.reduceAdd, Nat.reduceMul, Nat.reduceLeDiff, Nat.reduceSub, Bool.false_eq_true]; try rfl) | skip)
theorem r28_Weight_okN (p0 : Form) (p1 : Int) : Sim (r28_Weight p0 p1) fun r => ∀ ws, ws.map normA = [.agg [.sl p0.Roots.length (p0.Roots.flatMap (cint .i64)), .sl p0.Shapes.length (p0.Shapes.flatMap cShape), .sl p0.Slots.length (p0.Slots.flatMap (csl (cint .i64)))], .int .i64 p1] → evI T 95 ws = some (.int .i64 r, [.none, .none]) := fun r h => evI_okN (x := x95) rfl rfl rfl (r28_Weight_ok p0 p1 r h)
end Go.Ab

/-
  Printed by gen.py.
-/
namespace Go.Ab
open Go
set_option linter.unusedVariables false
set_option linter.unusedSimpArgs false
set_option maxRecDepth 100000
set_option maxHeartbeats 4000000
theorem l28_light_ok (p0 : Form) : Sim (l28_light p0) fun r => evI T 44 [.agg [.sl p0.Roots.length (p0.Roots.flatMap (cint .i64)), .sl p0.Shapes.length (p0.Shapes.flatMap cShape), .sl p0.Slots.length (p0.Slots.flatMap (csl (cint .i64)))]] = some (.bool r, [.none]) := by
  unfold l28_light
  refine sim_bind (fun r1 h1 => ?_)
  have f2 := r28_Weight_okN p0 300 _ h1
  dsimp only at f2
  refine sim_some ?_
  refine evI_ret (x := x44) rfl rfl rfl ?_
  try simp only [nz, nzShape, nzForm] at f2
  all_goals
    refine' (w_fn rfl rfl (w_seq (w_reg (w_cons ?_ (w_cons ?_ w_nil)) ?_) (w_go (w_seq (w_reg (w_cons ?_ (w_cons ?_ (w_cons ?_ (w_cons ?_ w_nil)))) ?_) (w_go w_ret)))) ?_)
    all_goals (first | (simp only [x44, nz, rn, nzShape, nzForm, f2, Int.reduceLT, Int.reduceEq, List.contains_cons, List.contains_nil, Option.map_some, Option.map_none, reduceIte, reduceCtorEq, Nat.reduceEqDiff, Nat.reduceLT, Nat.reduceBEq, Nat.reduceAdd, Nat.reduceMul, Nat.reduceLeDiff, Nat.reduceSub, Bool.false_eq_true]; try rfl) | skip)
theorem l28_light_okN (p0 : Form) : Sim (l28_light p0) fun r => ∀ ws, ws.map normA = [.agg [.sl p0.Roots.length (p0.Roots.flatMap (cint .i64)), .sl p0.Shapes.length (p0.Shapes.flatMap cShape), .sl p0.Slots.length (p0.Slots.flatMap (csl (cint .i64)))]] → evI T 44 ws = some (.bool r, [.none]) := fun r h => evI_okN (x := x44) rfl rfl rfl (l28_light_ok p0 r h)
end Go.Ab

/-
  Printed by gen.py.
-/
namespace Go.Ab
open Go
set_option linter.unusedVariables false
set_option linter.unusedSimpArgs false
set_option maxRecDepth 100000
set_option maxHeartbeats 4000000
theorem r28_next_j1_ok (p0 : Int) (p1 : Int) : evX (evI T) x99_1 [(0, .int .i64 p0), (1, .int .i64 p1)] = some (.norm, [(0, .int .i64 p0), (1, .int .i64 p1), (16, .bool (((decide (p0 < 0)) || (((decide (p1 < 0)) || (decide ((IntKind.wrap .i64 (p0 + 1)) < p1)))))))]) := by
  rcases Bool.eq_false_or_eq_true (decide (p0 < 0)) with h1 | h1
  · refine' (w_reg (w_cons ?_ (w_cons ?_ (w_cons ?_ (w_cons ?_ (w_cons ?_ (w_cons ?_ (w_cons ?_ (w_cons ?_ (w_cons ?_ (w_cons ?_ (w_cons ?_ (w_cons ?_ w_nil)))))))))))) ?_)
    all_goals (first | (simp only [nz, rn, h1, Int.reduceLT, Int.reduceEq, List.contains_cons, List.contains_nil, Option.map_some, Option.map_none, reduceIte, reduceCtorEq, Nat.reduceEqDiff, Nat.reduceLT, Nat.reduceBEq, Nat.reduceAdd, Nat.reduceMul, Nat.reduceLeDiff, Nat.reduceSub, Bool.false_eq_true]; try rfl) | skip)
  · rcases Bool.eq_false_or_eq_true (decide (p1 < 0)) with h2 | h2
    · refine' (w_reg (w_cons ?_ (w_cons ?_ (w_cons ?_ (w_cons ?_ (w_cons ?_ (w_cons ?_ (w_cons ?_ (w_cons ?_ (w_cons ?_ (w_cons ?_ (w_cons ?_ (w_cons ?_ w_nil)))))))))))) ?_)
      all_goals (first | (simp only [nz, rn, h1, h2, Int.reduceLT, Int.reduceEq, List.contains_cons, List.contains_nil, Option.map_some, Option.map_none, reduceIte, reduceCtorEq, Nat.reduceEqDiff, Nat.reduceLT, Nat.reduceBEq, Nat.reduceAdd, Nat.reduceMul, Nat.reduceLeDiff, Nat.reduceSub, Bool.false_eq_true]; try rfl) | skip)
    · refine' (w_reg (w_cons ?_ (w_cons ?_ (w_cons ?_ (w_cons ?_ (w_cons ?_ (w_cons ?_ (w_cons ?_ (w_cons ?_ (w_cons ?_ (w_cons ?_ (w_cons ?_ (w_cons ?_ w_nil)))))))))))) ?_)
      all_goals (first | (simp only [nz, rn, h1, h2, Int.reduceLT, Int.reduceEq, List.contains_cons, List.contains_nil, Option.map_some, Option.map_none, reduceIte, reduceCtorEq, Nat.reduceEqDiff, Nat.reduceLT, Nat.reduceBEq, Nat.reduceAdd, Nat.reduceMul, Nat.reduceLeDiff, Nat.reduceSub, Bool.false_eq_true]; try rfl) | skip)
theorem r28_next_ok (p0 : Int) (p1 : Int) : Sim (r28_next p0 p1) fun r => evI T 99 [.int .i64 p0, .int .i64 p1] = some (.int .i64 r, [.none, .none]) := by
  unfold r28_next
  have f4 := r28_next_j1_ok p0 p1
  refine sim_if (fun h5 => ?_) (fun h5 => ?_)
  · refine sim_some ?_
    refine evI_ret (x := x99) rfl rfl rfl ?_
    try simp only [nz] at f4
    all_goals
      refine' (w_fn rfl rfl (w_seq (w_reg (w_cons ?_ w_nil) ?_) (w_go (w_seq (w_seq f4 (w_go (w_condt ?_ (w_seq (w_reg (w_cons ?_ w_nil) ?_) (w_go w_ret)) ?_))) w_gor))) ?_)
      all_goals (first | (simp only [x99, nz, rn, h5, Int.reduceLT, Int.reduceEq, List.contains_cons, List.contains_nil, Option.map_some, Option.map_none, reduceIte, reduceCtorEq, Nat.reduceEqDiff, Nat.reduceLT, Nat.reduceBEq, Nat.reduceAdd, Nat.reduceMul, Nat.reduceLeDiff, Nat.reduceSub, Bool.false_eq_true]; try rfl) | skip)
  · refine sim_if (fun h6 => ?_) (fun h6 => ?_)
    · refine sim_some ?_
      refine evI_ret (x := x99) rfl rfl rfl ?_
      try simp only [nz] at f4
      all_goals
        refine' (w_fn rfl rfl (w_seq (w_reg (w_cons ?_ w_nil) ?_) (w_go (w_seq (w_seq f4 (w_go (w_condf ?_ w_skip ?_))) (w_go (w_seq (w_seq (w_reg (w_cons ?_ (w_cons ?_ (w_cons ?_ w_nil))) ?_) (w_go (w_condt ?_ (w_seq (w_reg (w_cons ?_ (w_cons ?_ w_nil)) ?_) (w_go w_ret)) ?_))) w_gor))))) ?_)
        all_goals (first | (simp only [x99, nz, rn, h5, h6, Int.reduceLT, Int.reduceEq, List.contains_cons, List.contains_nil, Option.map_some, Option.map_none, reduceIte, reduceCtorEq, Nat.reduceEqDiff, Nat.reduceLT, Nat.reduceBEq, Nat.reduceAdd, Nat.reduceMul, Nat.reduceLeDiff, Nat.reduceSub, Bool.false_eq_true]; try rfl) | skip)
    · refine sim_some ?_
      refine evI_ret (x := x99) rfl rfl rfl ?_
      try simp only [nz] at f4
      all_goals
        refine' (w_fn rfl rfl (w_seq (w_reg (w_cons ?_ w_nil) ?_) (w_go (w_seq (w_seq f4 (w_go (w_condf ?_ w_skip ?_))) (w_go (w_seq (w_seq (w_reg (w_cons ?_ (w_cons ?_ (w_cons ?_ w_nil))) ?_) (w_go (w_condf ?_ w_skip ?_))) (w_go (w_seq (w_reg (w_cons ?_ (w_cons ?_ w_nil)) ?_) (w_go w_ret)))))))) ?_)
        all_goals (first | (simp only [x99, nz, rn, h5, h6, Int.reduceLT, Int.reduceEq, List.contains_cons, List.contains_nil, Option.map_some, Option.map_none, reduceIte, reduceCtorEq, Nat.reduceEqDiff, Nat.reduceLT, Nat.reduceBEq, Nat.reduceAdd, Nat.reduceMul, Nat.reduceLeDiff, Nat.reduceSub, Bool.false_eq_true]; try rfl) | skip)
theorem r28_next_okN (p0 : Int) (p1 : Int) : Sim (r28_next p0 p1) fun r => ∀ ws, ws.map normA = [.int .i64 p0, .int .i64 p1] → evI T 99 ws = some (.int .i64 r, [.none, .none]) := fun r h => evI_okN (x := x99) rfl rfl rfl (r28_next_ok p0 p1 r h)
end Go.Ab

/-
  Printed by gen.py.
-/
namespace Go.Ab
open Go
set_option linter.unusedVariables false
set_option linter.unusedSimpArgs false
set_option maxRecDepth 100000
set_option maxHeartbeats 4000000
theorem r03_power_l1_bok (p0 : Int) (out1 : Int) (i2 : Int) : Sim (r03_power_l1_b p0 out1 i2) fun x => fgt [0, 3, 4] (evX (evI T) x75_1 [(0, .int .i64 p0), (3, .int .i64 out1), (4, .int .i64 i2)]) = some (stpK (fun s => (.norm, [(0, .int .i64 p0), (3, .int .i64 s.1), (4, .int .i64 s.2)])) (fun r => (.exit 0, [(3, .int .i64 r)])) x) := by
  unfold r03_power_l1_b
  refine sim_if (fun h1 => ?_) (fun h1 => ?_)
  · refine sim_some ?_
    refine' (w_fgt (w_seq (w_seq (w_reg (w_cons ?_ (w_cons ?_ (w_cons ?_ w_nil))) ?_) (w_go (w_condt ?_ w_skip ?_))) (w_go (w_seq (w_block (w_reg (w_cons ?_ (w_cons ?_ (w_cons ?_ w_nil))) ?_) ?_) (w_go (w_reg (w_cons ?_ (w_cons ?_ (w_cons ?_ w_nil))) ?_))))) ?_)
    all_goals (first | (simp only [nz, rn, h1, Int.reduceLT, Int.reduceEq, List.contains_cons, List.contains_nil, Option.map_some, Option.map_none, reduceIte, reduceCtorEq, Nat.reduceEqDiff, Nat.reduceLT, Nat.reduceBEq, Nat.reduceAdd, Nat.reduceMul, Nat.reduceLeDiff, Nat.reduceSub, Bool.false_eq_true]; try rfl) | skip)
  · refine sim_some ?_
    refine' (w_fgt (w_seq (w_seq (w_reg (w_cons ?_ (w_cons ?_ (w_cons ?_ w_nil))) ?_) (w_go (w_condf ?_ (w_exit ?_) ?_))) w_gox) ?_)
    all_goals (first | (simp only [nz, rn, h1, Int.reduceLT, Int.reduceEq, List.contains_cons, List.contains_nil, Option.map_some, Option.map_none, reduceIte, reduceCtorEq, Nat.reduceEqDiff, Nat.reduceLT, Nat.reduceBEq, Nat.reduceAdd, Nat.reduceMul, Nat.reduceLeDiff, Nat.reduceSub, Bool.false_eq_true]; try rfl) | skip)
theorem r03_power_l1_ok (p0 : Int) (s : Int × Int) : Sim (r03_power_l1 p0 s) fun r => evX (evI T) (.loop x75_1 [0, 3, 4]) [(0, .int .i64 p0), (3, .int .i64 s.1), (4, .int .i64 s.2)] = some (.exit 0, [(3, .int .i64 r)]) := by
  unfold r03_power_l1
  exact loop_rule (C := evI T) (b := x75_1) (ks := [0, 3, 4]) (σ := Int × Int) (ρ := Int) (body := fun s => r03_power_l1_b p0 s.1 s.2) (E := fun s => [(0, .int .i64 p0), (3, .int .i64 s.1), (4, .int .i64 s.2)]) (R := fun r => (.exit 0, [(3, .int .i64 r)])) (fun r h => nomatch h) (fun s => r03_power_l1_bok p0 s.1 s.2) s
theorem r03_power_ok (p0 : Int) : Sim (r03_power p0) fun r => evI T 75 [.int .i64 p0] = some (.int .i64 r, [.none]) := by
  unfold r03_power
  refine sim_bind (fun out3 h2 => ?_)
  have f3 := r03_power_l1_ok p0 (1, 0) _ h2
  dsimp only at f3
  refine sim_some ?_
  refine evI_ret (x := x75) rfl rfl rfl ?_
  try simp only [nz] at f3
  all_goals
    refine' (w_fn rfl rfl (w_seq (w_reg (w_cons ?_ w_nil) ?_) (w_go (w_seq (w_reg (w_cons ?_ w_nil) ?_) (w_go (w_seq (w_seq (w_reg (w_cons ?_ w_nil) ?_) (w_go (w_block f3 ?_))) (w_go (w_seq (w_reg (w_cons ?_ (w_cons ?_ w_nil)) ?_) (w_go w_ret)))))))) ?_)
    all_goals (first | (simp only [x75, nz, rn, Int.reduceLT, Int.reduceEq, List.contains_cons, List.contains_nil, Option.map_some, Option.map_none, reduceIte, reduceCtorEq, Nat.reduceEqDiff, Nat.reduceLT, Nat.reduceBEq, Nat.reduceAdd, Nat.reduceMul, Nat.reduceLeDiff, Nat.reduceSub, Bool.false_eq_true]; try rfl) | skip)
theorem r03_power_okN (p0 : Int) : Sim (r03_power p0) fun r => ∀ ws, ws.map normA = [.int .i64 p0] → evI T 75 ws = some (.int .i64 r, [.none]) := fun r h => evI_okN (x := x75) rfl rfl rfl (r03_power_ok p0 r h)
end Go.Ab

/-
  Printed by gen.py.
-/
namespace Go.Ab
open Go
set_option linter.unusedVariables false
set_option linter.unusedSimpArgs false
set_option maxRecDepth 100000
set_option maxHeartbeats 4000000
theorem r03_Check_j1_ok (p0 : Shape) : evX (evI T) x62_1 [(1, .box [.int .i64 p0.Slots, .int .i64 p0.Mask])] = some (.norm, [(1, .box [.int .i64 p0.Slots, .int .i64 p0.Mask]), (10, .bool (((decide (p0.Slots < 0)) || (decide (16 < p0.Slots)))))]) := by
  rcases Bool.eq_false_or_eq_true (decide (p0.Slots < 0)) with h1 | h1
  · refine' (w_reg (w_cons ?_ (w_cons ?_ (w_cons ?_ (w_cons ?_ (w_cons ?_ (w_cons ?_ (w_cons ?_ (w_cons ?_ w_nil)))))))) ?_)
    all_goals (first | (simp only [nz, rn, nzShape, h1, Int.reduceLT, Int.reduceEq, List.contains_cons, List.contains_nil, Option.map_some, Option.map_none, reduceIte, reduceCtorEq, Nat.reduceEqDiff, Nat.reduceLT, Nat.reduceBEq, Nat.reduceAdd, Nat.reduceMul, Nat.reduceLeDiff, Nat.reduceSub, Bool.false_eq_true]; try rfl) | skip)
  · refine' (w_reg (w_cons ?_ (w_cons ?_ (w_cons ?_ (w_cons ?_ (w_cons ?_ (w_cons ?_ (w_cons ?_ (w_cons ?_ w_nil)))))))) ?_)
    all_goals (first | (simp only [nz, rn, nzShape, h1, Int.reduceLT, Int.reduceEq, List.contains_cons, List.contains_nil, Option.map_some, Option.map_none, reduceIte, reduceCtorEq, Nat.reduceEqDiff, Nat.reduceLT, Nat.reduceBEq, Nat.reduceAdd, Nat.reduceMul, Nat.reduceLeDiff, Nat.reduceSub, Bool.false_eq_true]; try rfl) | skip)
theorem r03_Check_j2_ok (p0 : Shape) : Sim (r03_Check_j2 p0) fun r => evX (evI T) x62_2 [(1, .box [.int .i64 p0.Slots, .int .i64 p0.Mask])] = some (.norm, [(21, .bool r)]) := by
  unfold r03_Check_j2
  refine sim_if (fun h5 => ?_) (fun h5 => ?_)
  · refine sim_some ?_
    refine' (w_regD ?_ ?_ (w_consD rfl ?_ ?_ ?_ (w_consD rfl ?_ ?_ ?_ (w_consD rfl ?_ ?_ ?_ (w_consD rfl ?_ ?_ ?_ (w_consD rfl ?_ ?_ ?_ (w_consD rfl ?_ ?_ ?_ (w_consD rfl ?_ ?_ ?_ (w_consD rfl ?_ ?_ ?_ (w_consD rfl ?_ ?_ ?_ (w_barD rfl rfl (w_cons ?_ (w_cons ?_ w_nil)))))))))))) ?_)
    all_goals (first | (simp only [nz, rn, nzShape, h5, Int.reduceLT, Int.reduceEq, List.contains_cons, List.contains_nil, Option.map_some, Option.map_none, reduceIte, reduceCtorEq, Nat.reduceEqDiff, Nat.reduceLT, Nat.reduceBEq, Nat.reduceAdd, Nat.reduceMul, Nat.reduceLeDiff, Nat.reduceSub, Bool.false_eq_true]; try rfl) | skip)
  · refine sim_bind (fun r2 h6 => ?_)
    have f7 := r03_power_okN p0.Slots _ h6
    dsimp only at f7
    refine sim_some ?_
    try simp only [nz, nzShape] at f7
    all_goals
      refine' (w_regD ?_ ?_ (w_consD rfl ?_ ?_ ?_ (w_consD rfl ?_ ?_ ?_ (w_consD rfl ?_ ?_ ?_ (w_consD rfl ?_ ?_ ?_ (w_consD rfl ?_ ?_ ?_ (w_consD rfl ?_ ?_ ?_ (w_consD rfl ?_ ?_ ?_ (w_consD rfl ?_ ?_ ?_ (w_consD rfl ?_ ?_ ?_ (w_barD rfl rfl (w_cons ?_ (w_cons ?_ w_nil)))))))))))) ?_)
      all_goals (first | (simp only [nz, rn, nzShape, h5, f7, Int.reduceLT, Int.reduceEq, List.contains_cons, List.contains_nil, Option.map_some, Option.map_none, reduceIte, reduceCtorEq, Nat.reduceEqDiff, Nat.reduceLT, Nat.reduceBEq, Nat.reduceAdd, Nat.reduceMul, Nat.reduceLeDiff, Nat.reduceSub, Bool.false_eq_true]; try rfl) | skip)
theorem r03_Check_ok (p0 : Shape) : Sim (r03_Check p0) fun r => evI T 62 [.agg [.int .i64 p0.Slots, .int .i64 p0.Mask]] = some (.int .i64 r, [.none]) := by
  unfold r03_Check
  have f3 := r03_Check_j1_ok p0
  refine sim_if (fun h4 => ?_) (fun h4 => ?_)
  · refine sim_some ?_
    refine evI_ret (x := x62) rfl rfl rfl ?_
    try simp only [nz, nzShape] at f3
    all_goals
      refine' (w_fn rfl rfl (w_seq (w_reg (w_cons ?_ (w_cons ?_ w_nil)) ?_) (w_go (w_seq (w_seq f3 (w_go (w_condt ?_ (w_seq (w_reg (w_cons ?_ w_nil) ?_) (w_go w_ret)) ?_))) w_gor))) ?_)
      all_goals (first | (simp only [x62, nz, rn, nzShape, h4, Int.reduceLT, Int.reduceEq, List.contains_cons, List.contains_nil, Option.map_some, Option.map_none, reduceIte, reduceCtorEq, Nat.reduceEqDiff, Nat.reduceLT, Nat.reduceBEq, Nat.reduceAdd, Nat.reduceMul, Nat.reduceLeDiff, Nat.reduceSub, Bool.false_eq_true]; try rfl) | skip)
  · refine sim_bind (fun v3 h8 => ?_)
    have f9 := r03_Check_j2_ok p0 _ h8
    dsimp only at f9
    refine sim_if (fun h10 => ?_) (fun h10 => ?_)
    · refine sim_some ?_
      refine evI_ret (x := x62) rfl rfl rfl ?_
      try simp only [nz, nzShape] at f3
      try simp only [nz, nzShape] at f9
      all_goals
        refine' (w_fn rfl rfl (w_seq (w_reg (w_cons ?_ (w_cons ?_ w_nil)) ?_) (w_go (w_seq (w_seq f3 (w_go (w_condf ?_ w_skip ?_))) (w_go (w_seq (w_seq f9 (w_go (w_condt ?_ (w_seq (w_reg (w_cons ?_ w_nil) ?_) (w_go w_ret)) ?_))) w_gor))))) ?_)
        all_goals (first | (simp only [x62, nz, rn, nzShape, h4, h10, Int.reduceLT, Int.reduceEq, List.contains_cons, List.contains_nil, Option.map_some, Option.map_none, reduceIte, reduceCtorEq, Nat.reduceEqDiff, Nat.reduceLT, Nat.reduceBEq, Nat.reduceAdd, Nat.reduceMul, Nat.reduceLeDiff, Nat.reduceSub, Bool.false_eq_true]; try rfl) | skip)
    · refine sim_some ?_
      refine evI_ret (x := x62) rfl rfl rfl ?_
      try simp only [nz, nzShape] at f3
      try simp only [nz, nzShape] at f9
      all_goals
        refine' (w_fn rfl rfl (w_seq (w_reg (w_cons ?_ (w_cons ?_ w_nil)) ?_) (w_go (w_seq (w_seq f3 (w_go (w_condf ?_ w_skip ?_))) (w_go (w_seq (w_seq f9 (w_go (w_condf ?_ w_skip ?_))) (w_go (w_seq (w_reg (w_cons ?_ w_nil) ?_) (w_go w_ret)))))))) ?_)
        all_goals (first | (simp only [x62, nz, rn, nzShape, h4, h10, Int.reduceLT, Int.reduceEq, List.contains_cons, List.contains_nil, Option.map_some, Option.map_none, reduceIte, reduceCtorEq, Nat.reduceEqDiff, Nat.reduceLT, Nat.reduceBEq, Nat.reduceAdd, Nat.reduceMul, Nat.reduceLeDiff, Nat.reduceSub, Bool.false_eq_true]; try rfl) | skip)
theorem r03_Check_okN (p0 : Shape) : Sim (r03_Check p0) fun r => ∀ ws, ws.map normA = [.agg [.int .i64 p0.Slots, .int .i64 p0.Mask]] → evI T 62 ws = some (.int .i64 r, [.none]) := fun r h => evI_okN (x := x62) rfl rfl rfl (r03_Check_ok p0 r h)
end Go.Ab

/-
  Printed by gen.py.
-/
namespace Go.Ab
open Go
set_option linter.unusedVariables false
set_option linter.unusedSimpArgs false
set_option maxRecDepth 100000
set_option maxHeartbeats 4000000
theorem r03_Pointer_j1_ok (p0 : Shape) (p1 : Int) : evX (evI T) x23_1 [(1, .int .i64 p1), (2, .box [.int .i64 p0.Slots, .int .i64 p0.Mask])] = some (.norm, [(1, .int .i64 p1), (2, .box [.int .i64 p0.Slots, .int .i64 p0.Mask]), (12, .bool (((decide (p1 < 0)) || (decide (p0.Slots ≤ p1)))))]) := by
  rcases Bool.eq_false_or_eq_true (decide (p1 < 0)) with h1 | h1
  · refine' (w_reg (w_cons ?_ (w_cons ?_ (w_cons ?_ (w_cons ?_ (w_cons ?_ (w_cons ?_ (w_cons ?_ (w_cons ?_ w_nil)))))))) ?_)
    all_goals (first | (simp only [nz, rn, nzShape, h1, Int.reduceLT, Int.reduceEq, List.contains_cons, List.contains_nil, Option.map_some, Option.map_none, reduceIte, reduceCtorEq, Nat.reduceEqDiff, Nat.reduceLT, Nat.reduceBEq, Nat.reduceAdd, Nat.reduceMul, Nat.reduceLeDiff, Nat.reduceSub, Bool.false_eq_true]; try rfl) | skip)
  · refine' (w_reg (w_cons ?_ (w_cons ?_ (w_cons ?_ (w_cons ?_ (w_cons ?_ (w_cons ?_ (w_cons ?_ (w_cons ?_ w_nil)))))))) ?_)
    all_goals (first | (simp only [nz, rn, nzShape, h1, Int.reduceLT, Int.reduceEq, List.contains_cons, List.contains_nil, Option.map_some, Option.map_none, reduceIte, reduceCtorEq, Nat.reduceEqDiff, Nat.reduceLT, Nat.reduceBEq, Nat.reduceAdd, Nat.reduceMul, Nat.reduceLeDiff, Nat.reduceSub, Bool.false_eq_true]; try rfl) | skip)
theorem r03_Pointer_ok (p0 : Shape) (p1 : Int) : Sim (r03_Pointer p0 p1) fun r => evI T 23 [.agg [.int .i64 p0.Slots, .int .i64 p0.Mask], .int .i64 p1] = some (.bool r, [.none, .none]) := by
  unfold r03_Pointer
  have f3 := r03_Pointer_j1_ok p0 p1
  refine sim_if (fun h4 => ?_) (fun h4 => ?_)
  · refine sim_some ?_
    refine evI_ret (x := x23) rfl rfl rfl ?_
    try simp only [nz, nzShape] at f3
    all_goals
      refine' (w_fn rfl rfl (w_seq (w_reg (w_cons ?_ (w_cons ?_ w_nil)) ?_) (w_go (w_seq (w_seq f3 (w_go (w_condt ?_ (w_seq (w_reg (w_cons ?_ w_nil) ?_) (w_go w_ret)) ?_))) w_gor))) ?_)
      all_goals (first | (simp only [x23, nz, rn, nzShape, h4, Int.reduceLT, Int.reduceEq, List.contains_cons, List.contains_nil, Option.map_some, Option.map_none, reduceIte, reduceCtorEq, Nat.reduceEqDiff, Nat.reduceLT, Nat.reduceBEq, Nat.reduceAdd, Nat.reduceMul, Nat.reduceLeDiff, Nat.reduceSub, Bool.false_eq_true]; try rfl) | skip)
  · refine sim_bind (fun r2 h5 => ?_)
    have f6 := r03_power_okN p1 _ h5
    dsimp only at f6
    refine sim_if (fun h7 => ?_) (fun h7 => ?_)
    · exact sim_none
    · refine sim_some ?_
      refine evI_ret (x := x23) rfl rfl rfl ?_
      try simp only [nz, nzShape] at f3
      try simp only [nz, nzShape] at f6
      all_goals
        refine' (w_fn rfl rfl (w_seq (w_reg (w_cons ?_ (w_cons ?_ w_nil)) ?_) (w_go (w_seq (w_seq f3 (w_go (w_condf ?_ w_skip ?_))) (w_go (w_seq (w_regD ?_ ?_ (w_consD rfl ?_ ?_ ?_ (w_consD rfl ?_ ?_ ?_ (w_consD rfl ?_ ?_ ?_ (w_consD rfl ?_ ?_ ?_ (w_barD rfl rfl (w_cons ?_ (w_cons ?_ (w_cons ?_ (w_cons ?_ w_nil))))))))) ?_) (w_go w_ret)))))) ?_)
        all_goals (first | (simp only [x23, nz, rn, nzShape, h4, f6, of_decide_eq_false h7, h7, Int.reduceLT, Int.reduceEq, List.contains_cons, List.contains_nil, Option.map_some, Option.map_none, reduceIte, reduceCtorEq, Nat.reduceEqDiff, Nat.reduceLT, Nat.reduceBEq, Nat.reduceAdd, Nat.reduceMul, Nat.reduceLeDiff, Nat.reduceSub, Bool.false_eq_true]; try rfl) | skip)
theorem r03_Pointer_okN (p0 : Shape) (p1 : Int) : Sim (r03_Pointer p0 p1) fun r => ∀ ws, ws.map normA = [.agg [.int .i64 p0.Slots, .int .i64 p0.Mask], .int .i64 p1] → evI T 23 ws = some (.bool r, [.none, .none]) := fun r h => evI_okN (x := x23) rfl rfl rfl (r03_Pointer_ok p0 p1 r h)
end Go.Ab

/-
  Printed by gen.py.
-/
namespace Go.Ab
open Go
set_option linter.unusedVariables false
set_option linter.unusedSimpArgs false
set_option maxRecDepth 100000
set_option maxHeartbeats 4000000
theorem r28_Check_l1_bok (p0 : Form) (v1 : Int) (v2 : Int) : Sim (r28_Check_l1_b p0 v1 v2) fun x => fgt [1, 3, 4] (evX (evI T) x46_1 [(1, .box [.sl p0.Roots.length (p0.Roots.flatMap (cint .i64)), .sl p0.Shapes.length (p0.Shapes.flatMap cShape), .sl p0.Slots.length (p0.Slots.flatMap (csl (cint .i64)))]), (3, .int .i64 v1), (4, .int .i64 v2)]) = some (stpK (fun s => (.norm, [(1, .box [.sl p0.Roots.length (p0.Roots.flatMap (cint .i64)), .sl p0.Shapes.length (p0.Shapes.flatMap cShape), .sl p0.Slots.length (p0.Slots.flatMap (csl (cint .i64)))]), (3, .int .i64 s.1), (4, .int .i64 s.2)])) (fun r => (.exit 0, [(1, .box [.sl p0.Roots.length (p0.Roots.flatMap (cint .i64)), .sl p0.Shapes.length (p0.Shapes.flatMap cShape), .sl p0.Slots.length (p0.Slots.flatMap (csl (cint .i64)))]), (3, .int .i64 r)])) x) := by
  unfold r28_Check_l1_b
  refine sim_if (fun h2 => ?_) (fun h2 => ?_)
  · refine sim_bind (fun x_3 h3 => ?_)
    have f4 := ix_ok h3
    have f4o := ix_own2 h3
    have f5 := ix_cells (sz_int .i64) h3
    simp only [nz, nzShape, nzForm] at f5
    refine sim_bind (fun r4 h6 => ?_)
    have f7 := r28_next_okN v1 x_3 _ h6
    dsimp only at f7
    refine sim_some ?_
    try simp only [nz, nzShape, nzForm] at f7
    all_goals
      refine' (w_fgt (w_seq (w_seq (w_reg (w_cons ?_ (w_cons ?_ (w_cons ?_ (w_cons ?_ (w_cons ?_ w_nil))))) ?_) (w_go (w_condt ?_ w_skip ?_))) (w_go (w_seq (w_block (w_reg (w_cons ?_ (w_cons ?_ (w_cons ?_ (w_cons ?_ (w_cons ?_ (w_cons ?_ (w_cons ?_ (w_cons ?_ w_nil)))))))) ?_) ?_) (w_go (w_reg (w_cons ?_ (w_cons ?_ (w_cons ?_ w_nil))) ?_))))) ?_)
      all_goals (first | (simp only [nz, rn, nzShape, nzForm, h2, f4, f4o, f5, f7, Int.reduceLT, Int.reduceEq, List.contains_cons, List.contains_nil, Option.map_some, Option.map_none, reduceIte, reduceCtorEq, Nat.reduceEqDiff, Nat.reduceLT, Nat.reduceBEq, Nat.reduceAdd, Nat.reduceMul, Nat.reduceLeDiff, Nat.reduceSub, Bool.false_eq_true]; try rfl) | skip)
  · refine sim_some ?_
    refine' (w_fgt (w_seq (w_seq (w_reg (w_cons ?_ (w_cons ?_ (w_cons ?_ (w_cons ?_ (w_cons ?_ w_nil))))) ?_) (w_go (w_condf ?_ (w_exit ?_) ?_))) w_gox) ?_)
    all_goals (first | (simp only [nz, rn, nzShape, nzForm, h2, Int.reduceLT, Int.reduceEq, List.contains_cons, List.contains_nil, Option.map_some, Option.map_none, reduceIte, reduceCtorEq, Nat.reduceEqDiff, Nat.reduceLT, Nat.reduceBEq, Nat.reduceAdd, Nat.reduceMul, Nat.reduceLeDiff, Nat.reduceSub, Bool.false_eq_true]; try rfl) | skip)
theorem r28_Check_l1_ok (p0 : Form) (s : Int × Int) : Sim (r28_Check_l1 p0 s) fun r => evX (evI T) (.loop x46_1 [1, 3, 4]) [(1, .box [.sl p0.Roots.length (p0.Roots.flatMap (cint .i64)), .sl p0.Shapes.length (p0.Shapes.flatMap cShape), .sl p0.Slots.length (p0.Slots.flatMap (csl (cint .i64)))]), (3, .int .i64 s.1), (4, .int .i64 s.2)] = some (.exit 0, [(1, .box [.sl p0.Roots.length (p0.Roots.flatMap (cint .i64)), .sl p0.Shapes.length (p0.Shapes.flatMap cShape), .sl p0.Slots.length (p0.Slots.flatMap (csl (cint .i64)))]), (3, .int .i64 r)]) := by
  unfold r28_Check_l1
  exact loop_rule (C := evI T) (b := x46_1) (ks := [1, 3, 4]) (σ := Int × Int) (ρ := Int) (body := fun s => r28_Check_l1_b p0 s.1 s.2) (E := fun s => [(1, .box [.sl p0.Roots.length (p0.Roots.flatMap (cint .i64)), .sl p0.Shapes.length (p0.Shapes.flatMap cShape), .sl p0.Slots.length (p0.Slots.flatMap (csl (cint .i64)))]), (3, .int .i64 s.1), (4, .int .i64 s.2)]) (R := fun r => (.exit 0, [(1, .box [.sl p0.Roots.length (p0.Roots.flatMap (cint .i64)), .sl p0.Shapes.length (p0.Shapes.flatMap cShape), .sl p0.Slots.length (p0.Slots.flatMap (csl (cint .i64)))]), (3, .int .i64 r)])) (fun r h => nomatch h) (fun s => r28_Check_l1_bok p0 s.1 s.2) s
theorem r28_Check_j20_ok (p0 : Form) (v6 : Int) (v7 : Int) (x_8 : Shape) : Sim (r28_Check_j20 p0 v6 v7 x_8) fun r => evX (evI T) x46_2 [(1, .box [.sl p0.Roots.length (p0.Roots.flatMap (cint .i64)), .sl p0.Shapes.length (p0.Shapes.flatMap cShape), .sl p0.Slots.length (p0.Slots.flatMap (csl (cint .i64)))]), (3, .int .i64 v6), (5, .int .i64 v7), (6, .box [.int .i64 x_8.Slots, .int .i64 x_8.Mask])] = some (.norm, [(1, .box [.sl p0.Roots.length (p0.Roots.flatMap (cint .i64)), .sl p0.Shapes.length (p0.Shapes.flatMap cShape), .sl p0.Slots.length (p0.Slots.flatMap (csl (cint .i64)))]), (3, .int .i64 v6), (5, .int .i64 v7), (6, .box [.int .i64 x_8.Slots, .int .i64 x_8.Mask]), (56, .bool r)]) := by
  unfold r28_Check_j20
  refine sim_bind (fun r9 h15 => ?_)
  have f16 := r03_Check_okN x_8 _ h15
  dsimp only at f16
  refine sim_if (fun h17 => ?_) (fun h17 => ?_)
  · refine sim_some ?_
    try simp only [nz, nzShape, nzForm] at f16
    all_goals
      refine' (w_regD ?_ ?_ (w_consD rfl ?_ ?_ ?_ (w_consD rfl ?_ ?_ ?_ (w_consD rfl ?_ ?_ ?_ (w_consD rfl ?_ ?_ ?_ (w_consD rfl ?_ ?_ ?_ (w_consD rfl ?_ ?_ ?_ (w_consD rfl ?_ ?_ ?_ (w_consD rfl ?_ ?_ ?_ (w_consD rfl ?_ ?_ ?_ (w_consD rfl ?_ ?_ ?_ (w_consD rfl ?_ ?_ ?_ (w_consD rfl ?_ ?_ ?_ (w_barD rfl rfl (w_cons ?_ (w_cons ?_ w_nil))))))))))))))) ?_)
      all_goals (first | (simp only [nz, rn, nzShape, nzForm, f16, h17, Int.reduceLT, Int.reduceEq, List.contains_cons, List.contains_nil, Option.map_some, Option.map_none, reduceIte, reduceCtorEq, Nat.reduceEqDiff, Nat.reduceLT, Nat.reduceBEq, Nat.reduceAdd, Nat.reduceMul, Nat.reduceLeDiff, Nat.reduceSub, Bool.false_eq_true]; try rfl) | skip)
  · refine sim_bind (fun x_10 h18 => ?_)
    have f19 := ix_ok h18
    have f19o := ix_own2 h18
    have f20 := ix_cells (sz_sl (cint .i64)) h18
    simp only [nz, nzShape, nzForm] at f20
    refine sim_some ?_
    try simp only [nz, nzShape, nzForm] at f16
    all_goals
      refine' (w_regD ?_ ?_ (w_consD rfl ?_ ?_ ?_ (w_consD rfl ?_ ?_ ?_ (w_consD rfl ?_ ?_ ?_ (w_consD rfl ?_ ?_ ?_ (w_consD rfl ?_ ?_ ?_ (w_consD rfl ?_ ?_ ?_ (w_consD rfl ?_ ?_ ?_ (w_consD rfl ?_ ?_ ?_ (w_consD rfl ?_ ?_ ?_ (w_consD rfl ?_ ?_ ?_ (w_consD rfl ?_ ?_ ?_ (w_consD rfl ?_ ?_ ?_ (w_barD rfl rfl (w_cons ?_ (w_cons ?_ w_nil))))))))))))))) ?_)
      all_goals (first | (simp only [nz, rn, nzShape, nzForm, f16, h17, f19, f19o, f20, Int.reduceLT, Int.reduceEq, List.contains_cons, List.contains_nil, Option.map_some, Option.map_none, reduceIte, reduceCtorEq, Nat.reduceEqDiff, Nat.reduceLT, Nat.reduceBEq, Nat.reduceAdd, Nat.reduceMul, Nat.reduceLeDiff, Nat.reduceSub, Bool.false_eq_true]; try rfl) | skip)
theorem r28_Check_j24_ok (p0 : Form) (v7 : Int) (x_8 : Shape) (v12 : Int) (v13 : Int) (r14 : Bool) : Sim (r28_Check_j24 p0 v7 x_8 v12 v13 r14) fun r => evX (evI T) x46_3 [(1, .box [.sl p0.Roots.length (p0.Roots.flatMap (cint .i64)), .sl p0.Shapes.length (p0.Shapes.flatMap cShape), .sl p0.Slots.length (p0.Slots.flatMap (csl (cint .i64)))]), (3, .int .i64 v12), (5, .int .i64 v7), (6, .box [.int .i64 x_8.Slots, .int .i64 x_8.Mask]), (7, .int .i64 v13), (68, .bool r14)] = some (.norm, [(1, .box [.sl p0.Roots.length (p0.Roots.flatMap (cint .i64)), .sl p0.Shapes.length (p0.Shapes.flatMap cShape), .sl p0.Slots.length (p0.Slots.flatMap (csl (cint .i64)))]), (3, .int .i64 r), (5, .int .i64 v7), (6, .box [.int .i64 x_8.Slots, .int .i64 x_8.Mask]), (7, .int .i64 v13)]) := by
  unfold r28_Check_j24
  refine sim_if (fun h28 => ?_) (fun h28 => ?_)
  · refine sim_bind (fun x_15 h29 => ?_)
    have f30 := ix_ok h29
    have f30o := ix_own2 h29
    have f31 := ix_cells (sz_sl (cint .i64)) h29
    simp only [nz, nzShape, nzForm] at f31
    refine sim_bind (fun x_16 h32 => ?_)
    have f33 := ix_ok h32
    have f33o := ix_own2 h32
    have f34 := ix_cells (sz_int .i64) h32
    simp only [nz, nzShape, nzForm] at f34
    refine sim_bind (fun r17 h35 => ?_)
    have f36 := r28_next_okN v12 x_16 _ h35
    dsimp only at f36
    refine sim_some ?_
    try simp only [nz, nzShape, nzForm, f33o] at f36
    all_goals
      refine' (w_condt ?_ (w_reg (w_cons ?_ (w_cons ?_ (w_cons ?_ (w_cons ?_ (w_cons ?_ (w_cons ?_ (w_cons ?_ (w_cons ?_ (w_cons ?_ (w_cons ?_ (w_cons ?_ w_nil))))))))))) ?_) ?_)
      all_goals (first | (simp only [nz, rn, nzShape, nzForm, h28, f30, f30o, f31, f33, f33o, f34, f36, Int.reduceLT, Int.reduceEq, List.contains_cons, List.contains_nil, Option.map_some, Option.map_none, reduceIte, reduceCtorEq, Nat.reduceEqDiff, Nat.reduceLT, Nat.reduceBEq, Nat.reduceAdd, Nat.reduceMul, Nat.reduceLeDiff, Nat.reduceSub, Bool.false_eq_true]; try rfl) | skip)
  · refine sim_some ?_
    refine' (w_condf ?_ w_skip ?_)
    all_goals (first | (simp only [nz, rn, nzShape, nzForm, h28, Int.reduceLT, Int.reduceEq, List.contains_cons, List.contains_nil, Option.map_some, Option.map_none, reduceIte, reduceCtorEq, Nat.reduceEqDiff, Nat.reduceLT, Nat.reduceBEq, Nat.reduceAdd, Nat.reduceMul, Nat.reduceLeDiff, Nat.reduceSub, Bool.false_eq_true]; try rfl) | skip)
theorem r28_Check_l25_bok (p0 : Form) (v7 : Int) (x_8 : Shape) (v12 : Int) (v13 : Int) : Sim (r28_Check_l25_b p0 v7 x_8 v12 v13) fun x => fgt [1, 3, 5, 6, 7] (evX (evI T) x46_4 [(1, .box [.sl p0.Roots.length (p0.Roots.flatMap (cint .i64)), .sl p0.Shapes.length (p0.Shapes.flatMap cShape), .sl p0.Slots.length (p0.Slots.flatMap (csl (cint .i64)))]), (3, .int .i64 v12), (5, .int .i64 v7), (6, .box [.int .i64 x_8.Slots, .int .i64 x_8.Mask]), (7, .int .i64 v13)]) = some (stpK (fun s => (.norm, [(1, .box [.sl p0.Roots.length (p0.Roots.flatMap (cint .i64)), .sl p0.Shapes.length (p0.Shapes.flatMap cShape), .sl p0.Slots.length (p0.Slots.flatMap (csl (cint .i64)))]), (3, .int .i64 s.1), (5, .int .i64 v7), (6, .box [.int .i64 x_8.Slots, .int .i64 x_8.Mask]), (7, .int .i64 s.2)])) (fun r => (.exit 4, [(1, .box [.sl p0.Roots.length (p0.Roots.flatMap (cint .i64)), .sl p0.Shapes.length (p0.Shapes.flatMap cShape), .sl p0.Slots.length (p0.Slots.flatMap (csl (cint .i64)))]), (3, .int .i64 r), (5, .int .i64 v7)])) x) := by
  unfold r28_Check_l25_b
  refine sim_if (fun h25 => ?_) (fun h25 => ?_)
  · refine sim_bind (fun r14 h26 => ?_)
    have f27 := r03_Pointer_okN x_8 v13 _ h26
    dsimp only at f27
    refine sim_bind (fun v18 h37 => ?_)
    have f38 := r28_Check_j24_ok p0 v7 x_8 v12 v13 r14 _ h37
    dsimp only at f38
    refine sim_some ?_
    try simp only [nz, nzShape, nzForm] at f27
    try simp only [nz, nzShape, nzForm] at f38
    all_goals
      refine' (w_fgt (w_seq (w_seq (w_reg (w_cons ?_ (w_cons ?_ (w_cons ?_ (w_cons ?_ w_nil)))) ?_) (w_go (w_condt ?_ w_skip ?_))) (w_go (w_seq (w_block (w_seq (w_reg (w_cons ?_ (w_cons ?_ (w_cons ?_ w_nil))) ?_) (w_go f38)) ?_) (w_go (w_reg (w_cons ?_ (w_cons ?_ (w_cons ?_ w_nil))) ?_))))) ?_)
      all_goals (first | (simp only [nz, rn, nzShape, nzForm, h25, f27, Int.reduceLT, Int.reduceEq, List.contains_cons, List.contains_nil, Option.map_some, Option.map_none, reduceIte, reduceCtorEq, Nat.reduceEqDiff, Nat.reduceLT, Nat.reduceBEq, Nat.reduceAdd, Nat.reduceMul, Nat.reduceLeDiff, Nat.reduceSub, Bool.false_eq_true]; try rfl) | skip)
  · refine sim_some ?_
    refine' (w_fgt (w_seq (w_seq (w_reg (w_cons ?_ (w_cons ?_ (w_cons ?_ (w_cons ?_ w_nil)))) ?_) (w_go (w_condf ?_ (w_exit ?_) ?_))) w_gox) ?_)
    all_goals (first | (simp only [nz, rn, nzShape, nzForm, h25, Int.reduceLT, Int.reduceEq, List.contains_cons, List.contains_nil, Option.map_some, Option.map_none, reduceIte, reduceCtorEq, Nat.reduceEqDiff, Nat.reduceLT, Nat.reduceBEq, Nat.reduceAdd, Nat.reduceMul, Nat.reduceLeDiff, Nat.reduceSub, Bool.false_eq_true]; try rfl) | skip)
theorem r28_Check_l25_ok (p0 : Form) (v7 : Int) (x_8 : Shape) (s : Int × Int) : Sim (r28_Check_l25 p0 v7 x_8 s) fun r => evX (evI T) (.loop x46_4 [1, 3, 5, 6, 7]) [(1, .box [.sl p0.Roots.length (p0.Roots.flatMap (cint .i64)), .sl p0.Shapes.length (p0.Shapes.flatMap cShape), .sl p0.Slots.length (p0.Slots.flatMap (csl (cint .i64)))]), (3, .int .i64 s.1), (5, .int .i64 v7), (6, .box [.int .i64 x_8.Slots, .int .i64 x_8.Mask]), (7, .int .i64 s.2)] = some (.exit 4, [(1, .box [.sl p0.Roots.length (p0.Roots.flatMap (cint .i64)), .sl p0.Shapes.length (p0.Shapes.flatMap cShape), .sl p0.Slots.length (p0.Slots.flatMap (csl (cint .i64)))]), (3, .int .i64 r), (5, .int .i64 v7)]) := by
  unfold r28_Check_l25
  exact loop_rule (C := evI T) (b := x46_4) (ks := [1, 3, 5, 6, 7]) (σ := Int × Int) (ρ := Int) (body := fun s => r28_Check_l25_b p0 v7 x_8 s.1 s.2) (E := fun s => [(1, .box [.sl p0.Roots.length (p0.Roots.flatMap (cint .i64)), .sl p0.Shapes.length (p0.Shapes.flatMap cShape), .sl p0.Slots.length (p0.Slots.flatMap (csl (cint .i64)))]), (3, .int .i64 s.1), (5, .int .i64 v7), (6, .box [.int .i64 x_8.Slots, .int .i64 x_8.Mask]), (7, .int .i64 s.2)]) (R := fun r => (.exit 4, [(1, .box [.sl p0.Roots.length (p0.Roots.flatMap (cint .i64)), .sl p0.Shapes.length (p0.Shapes.flatMap cShape), .sl p0.Slots.length (p0.Slots.flatMap (csl (cint .i64)))]), (3, .int .i64 r), (5, .int .i64 v7)])) (fun r h => nomatch h) (fun s => r28_Check_l25_bok p0 v7 x_8 s.1 s.2) s
theorem r28_Check_l26_bok (p0 : Form) (v6 : Int) (v7 : Int) : Sim (r28_Check_l26_b p0 v6 v7) fun x => fgt [1, 3, 5] (evX (evI T) x46_5 [(1, .box [.sl p0.Roots.length (p0.Roots.flatMap (cint .i64)), .sl p0.Shapes.length (p0.Shapes.flatMap cShape), .sl p0.Slots.length (p0.Slots.flatMap (csl (cint .i64)))]), (3, .int .i64 v6), (5, .int .i64 v7)]) = some (stpK (fun s => (.norm, [(1, .box [.sl p0.Roots.length (p0.Roots.flatMap (cint .i64)), .sl p0.Shapes.length (p0.Shapes.flatMap cShape), .sl p0.Slots.length (p0.Slots.flatMap (csl (cint .i64)))]), (3, .int .i64 s.1), (5, .int .i64 s.2)])) (fun r => (stpK (fun t0 => (.exit 2, [(1, .box [.sl p0.Roots.length (p0.Roots.flatMap (cint .i64)), .sl p0.Shapes.length (p0.Shapes.flatMap cShape), .sl p0.Slots.length (p0.Slots.flatMap (csl (cint .i64)))]), (3, .int .i64 t0)])) (fun u0 => (.ret, [(2, .int .i64 u0)])) r)) x) := by
  unfold r28_Check_l26_b
  refine sim_if (fun h11 => ?_) (fun h11 => ?_)
  · refine sim_bind (fun x_8 h12 => ?_)
    have f13 := ix_ok h12
    have f13o := ix_own2 h12
    have f14 := ix_cells szShape h12
    simp only [nz, nzShape, nzForm] at f14
    refine sim_bind (fun v11 h21 => ?_)
    have f22 := r28_Check_j20_ok p0 v6 v7 x_8 _ h21
    dsimp only at f22
    refine sim_if (fun h23 => ?_) (fun h23 => ?_)
    · refine sim_some ?_
      try simp only [nz, nzShape, nzForm] at f22
      all_goals
        refine' (w_fgt (w_seq (w_seq (w_reg (w_cons ?_ (w_cons ?_ (w_cons ?_ (w_cons ?_ (w_cons ?_ w_nil))))) ?_) (w_go (w_condt ?_ w_skip ?_))) (w_go (w_seq (w_block (w_seq (w_reg (w_cons ?_ (w_cons ?_ (w_cons ?_ (w_cons ?_ (w_cons ?_ (w_cons ?_ (w_cons ?_ w_nil))))))) ?_) (w_go (w_seq (w_seq f22 (w_go (w_condt ?_ (w_seq (w_reg (w_cons ?_ w_nil) ?_) (w_go w_ret)) ?_))) w_gor))) ?_) w_gor))) ?_)
        all_goals (first | (simp only [nz, rn, nzShape, nzForm, h11, f13, f13o, f14, h23, Int.reduceLT, Int.reduceEq, List.contains_cons, List.contains_nil, Option.map_some, Option.map_none, reduceIte, reduceCtorEq, Nat.reduceEqDiff, Nat.reduceLT, Nat.reduceBEq, Nat.reduceAdd, Nat.reduceMul, Nat.reduceLeDiff, Nat.reduceSub, Bool.false_eq_true]; try rfl) | skip)
    · refine sim_if (fun h24 => ?_) (fun h24 => ?_)
      · refine sim_some ?_
        try simp only [nz, nzShape, nzForm] at f22
        all_goals
          refine' (w_fgt (w_seq (w_seq (w_reg (w_cons ?_ (w_cons ?_ (w_cons ?_ (w_cons ?_ (w_cons ?_ w_nil))))) ?_) (w_go (w_condt ?_ w_skip ?_))) (w_go (w_seq (w_block (w_seq (w_reg (w_cons ?_ (w_cons ?_ (w_cons ?_ (w_cons ?_ (w_cons ?_ (w_cons ?_ (w_cons ?_ w_nil))))))) ?_) (w_go (w_seq (w_seq f22 (w_go (w_condf ?_ w_skip ?_))) (w_go (w_seq (w_seq (w_reg (w_cons ?_ (w_cons ?_ (w_cons ?_ w_nil))) ?_) (w_go (w_condt ?_ (w_seq (w_reg (w_cons ?_ w_nil) ?_) (w_go w_ret)) ?_))) w_gor))))) ?_) w_gor))) ?_)
          all_goals (first | (simp only [nz, rn, nzShape, nzForm, h11, f13, f13o, f14, h23, h24, Int.reduceLT, Int.reduceEq, List.contains_cons, List.contains_nil, Option.map_some, Option.map_none, reduceIte, reduceCtorEq, Nat.reduceEqDiff, Nat.reduceLT, Nat.reduceBEq, Nat.reduceAdd, Nat.reduceMul, Nat.reduceLeDiff, Nat.reduceSub, Bool.false_eq_true]; try rfl) | skip)
      · refine sim_bind (fun v19 h39 => ?_)
        have f40 := r28_Check_l25_ok p0 v7 x_8 (v6, 0) _ h39
        dsimp only at f40
        refine sim_if (fun h41 => ?_) (fun h41 => ?_)
        · refine sim_some ?_
          try simp only [nz, nzShape, nzForm] at f22
          try simp only [nz, nzShape, nzForm] at f40
          all_goals
            refine' (w_fgt (w_seq (w_seq (w_reg (w_cons ?_ (w_cons ?_ (w_cons ?_ (w_cons ?_ (w_cons ?_ w_nil))))) ?_) (w_go (w_condt ?_ w_skip ?_))) (w_go (w_seq (w_block (w_seq (w_reg (w_cons ?_ (w_cons ?_ (w_cons ?_ (w_cons ?_ (w_cons ?_ (w_cons ?_ (w_cons ?_ w_nil))))))) ?_) (w_go (w_seq (w_seq f22 (w_go (w_condf ?_ w_skip ?_))) (w_go (w_seq (w_seq (w_reg (w_cons ?_ (w_cons ?_ (w_cons ?_ w_nil))) ?_) (w_go (w_condf ?_ w_skip ?_))) (w_go (w_seq (w_seq (w_reg (w_cons ?_ w_nil) ?_) (w_go (w_block f40 ?_))) (w_go (w_seq (w_reg (w_cons ?_ (w_cons ?_ w_nil)) ?_) (w_go (w_condt ?_ (w_seq (w_reg (w_cons ?_ w_nil) ?_) (w_go w_ret)) ?_))))))))))) ?_) w_gor))) ?_)
            all_goals (first | (simp only [nz, rn, nzShape, nzForm, h11, f13, f13o, f14, h23, h24, h41, Int.reduceLT, Int.reduceEq, List.contains_cons, List.contains_nil, Option.map_some, Option.map_none, reduceIte, reduceCtorEq, Nat.reduceEqDiff, Nat.reduceLT, Nat.reduceBEq, Nat.reduceAdd, Nat.reduceMul, Nat.reduceLeDiff, Nat.reduceSub, Bool.false_eq_true]; try rfl) | skip)
        · refine sim_some ?_
          try simp only [nz, nzShape, nzForm] at f22
          try simp only [nz, nzShape, nzForm] at f40
          all_goals
            refine' (w_fgt (w_seq (w_seq (w_reg (w_cons ?_ (w_cons ?_ (w_cons ?_ (w_cons ?_ (w_cons ?_ w_nil))))) ?_) (w_go (w_condt ?_ w_skip ?_))) (w_go (w_seq (w_block (w_seq (w_reg (w_cons ?_ (w_cons ?_ (w_cons ?_ (w_cons ?_ (w_cons ?_ (w_cons ?_ (w_cons ?_ w_nil))))))) ?_) (w_go (w_seq (w_seq f22 (w_go (w_condf ?_ w_skip ?_))) (w_go (w_seq (w_seq (w_reg (w_cons ?_ (w_cons ?_ (w_cons ?_ w_nil))) ?_) (w_go (w_condf ?_ w_skip ?_))) (w_go (w_seq (w_seq (w_reg (w_cons ?_ w_nil) ?_) (w_go (w_block f40 ?_))) (w_go (w_seq (w_reg (w_cons ?_ (w_cons ?_ w_nil)) ?_) (w_go (w_condf ?_ w_skip ?_))))))))))) ?_) (w_go (w_reg (w_cons ?_ (w_cons ?_ (w_cons ?_ w_nil))) ?_))))) ?_)
            all_goals (first | (simp only [nz, rn, nzShape, nzForm, h11, f13, f13o, f14, h23, h24, h41, Int.reduceLT, Int.reduceEq, List.contains_cons, List.contains_nil, Option.map_some, Option.map_none, reduceIte, reduceCtorEq, Nat.reduceEqDiff, Nat.reduceLT, Nat.reduceBEq, Nat.reduceAdd, Nat.reduceMul, Nat.reduceLeDiff, Nat.reduceSub, Bool.false_eq_true]; try rfl) | skip)
  · refine sim_some ?_
    refine' (w_fgt (w_seq (w_seq (w_reg (w_cons ?_ (w_cons ?_ (w_cons ?_ (w_cons ?_ (w_cons ?_ w_nil))))) ?_) (w_go (w_condf ?_ (w_exit ?_) ?_))) w_gox) ?_)
    all_goals (first | (simp only [nz, rn, nzShape, nzForm, h11, Int.reduceLT, Int.reduceEq, List.contains_cons, List.contains_nil, Option.map_some, Option.map_none, reduceIte, reduceCtorEq, Nat.reduceEqDiff, Nat.reduceLT, Nat.reduceBEq, Nat.reduceAdd, Nat.reduceMul, Nat.reduceLeDiff, Nat.reduceSub, Bool.false_eq_true]; try rfl) | skip)
theorem r28_Check_l26_ok (p0 : Form) (s : Int × Int) : Sim (r28_Check_l26 p0 s) fun r => evX (evI T) (.loop x46_5 [1, 3, 5]) [(1, .box [.sl p0.Roots.length (p0.Roots.flatMap (cint .i64)), .sl p0.Shapes.length (p0.Shapes.flatMap cShape), .sl p0.Slots.length (p0.Slots.flatMap (csl (cint .i64)))]), (3, .int .i64 s.1), (5, .int .i64 s.2)] = some (stpK (fun t0 => (.exit 2, [(1, .box [.sl p0.Roots.length (p0.Roots.flatMap (cint .i64)), .sl p0.Shapes.length (p0.Shapes.flatMap cShape), .sl p0.Slots.length (p0.Slots.flatMap (csl (cint .i64)))]), (3, .int .i64 t0)])) (fun u0 => (.ret, [(2, .int .i64 u0)])) r) := by
  unfold r28_Check_l26
  exact loop_rule (C := evI T) (b := x46_5) (ks := [1, 3, 5]) (σ := Int × Int) (ρ := Stp Int Int) (body := fun s => r28_Check_l26_b p0 s.1 s.2) (E := fun s => [(1, .box [.sl p0.Roots.length (p0.Roots.flatMap (cint .i64)), .sl p0.Shapes.length (p0.Shapes.flatMap cShape), .sl p0.Slots.length (p0.Slots.flatMap (csl (cint .i64)))]), (3, .int .i64 s.1), (5, .int .i64 s.2)]) (R := fun r => (stpK (fun t0 => (.exit 2, [(1, .box [.sl p0.Roots.length (p0.Roots.flatMap (cint .i64)), .sl p0.Shapes.length (p0.Shapes.flatMap cShape), .sl p0.Slots.length (p0.Slots.flatMap (csl (cint .i64)))]), (3, .int .i64 t0)])) (fun u0 => (.ret, [(2, .int .i64 u0)])) r)) (fun r h => by rcases r with _ | _ <;> cases h) (fun s => r28_Check_l26_bok p0 s.1 s.2) s
theorem r28_Check_ok (p0 : Form) : Sim (r28_Check p0) fun r => evI T 46 [.agg [.sl p0.Roots.length (p0.Roots.flatMap (cint .i64)), .sl p0.Shapes.length (p0.Shapes.flatMap cShape), .sl p0.Slots.length (p0.Slots.flatMap (csl (cint .i64)))]] = some (.int .i64 r, [.none]) := by
  unfold r28_Check
  refine sim_if (fun h1 => ?_) (fun h1 => ?_)
  · refine sim_some ?_
    refine evI_ret (x := x46) rfl rfl rfl ?_
    refine' (w_fn rfl rfl (w_seq (w_reg (w_cons ?_ (w_cons ?_ w_nil)) ?_) (w_go (w_seq (w_seq (w_reg (w_cons ?_ (w_cons ?_ (w_cons ?_ (w_cons ?_ (w_cons ?_ (w_cons ?_ (w_cons ?_ w_nil))))))) ?_) (w_go (w_condt ?_ (w_seq (w_reg (w_cons ?_ w_nil) ?_) (w_go w_ret)) ?_))) w_gor))) ?_)
    all_goals (first | (simp only [x46, nz, rn, nzShape, nzForm, h1, Int.reduceLT, Int.reduceEq, List.contains_cons, List.contains_nil, Option.map_some, Option.map_none, reduceIte, reduceCtorEq, Nat.reduceEqDiff, Nat.reduceLT, Nat.reduceBEq, Nat.reduceAdd, Nat.reduceMul, Nat.reduceLeDiff, Nat.reduceSub, Bool.false_eq_true]; try rfl) | skip)
  · refine sim_bind (fun v5 h8 => ?_)
    have f9 := r28_Check_l1_ok p0 (0, 0) _ h8
    dsimp only at f9
    refine sim_if (fun h10 => ?_) (fun h10 => ?_)
    · refine sim_some ?_
      refine evI_ret (x := x46) rfl rfl rfl ?_
      try simp only [nz, nzShape, nzForm] at f9
      all_goals
        refine' (w_fn rfl rfl (w_seq (w_reg (w_cons ?_ (w_cons ?_ w_nil)) ?_) (w_go (w_seq (w_seq (w_reg (w_cons ?_ (w_cons ?_ (w_cons ?_ (w_cons ?_ (w_cons ?_ (w_cons ?_ (w_cons ?_ w_nil))))))) ?_) (w_go (w_condf ?_ w_skip ?_))) (w_go (w_seq (w_reg (w_cons ?_ w_nil) ?_) (w_go (w_seq (w_seq (w_reg (w_cons ?_ w_nil) ?_) (w_go (w_block f9 ?_))) (w_go (w_seq (w_seq (w_reg (w_cons ?_ (w_cons ?_ w_nil)) ?_) (w_go (w_condt ?_ (w_seq (w_reg (w_cons ?_ w_nil) ?_) (w_go w_ret)) ?_))) w_gor))))))))) ?_)
        all_goals (first | (simp only [x46, nz, rn, nzShape, nzForm, h1, h10, Int.reduceLT, Int.reduceEq, List.contains_cons, List.contains_nil, Option.map_some, Option.map_none, reduceIte, reduceCtorEq, Nat.reduceEqDiff, Nat.reduceLT, Nat.reduceBEq, Nat.reduceAdd, Nat.reduceMul, Nat.reduceLeDiff, Nat.reduceSub, Bool.false_eq_true]; try rfl) | skip)
    · refine sim_bind (fun qh42 h42 => ?_)
      rcases qh42 with ⟨v20⟩ | ⟨v21⟩
      · dsimp only
        have f43 := r28_Check_l26_ok p0 (v5, 0) _ h42
        dsimp only at f43
        refine sim_if (fun h44 => ?_) (fun h44 => ?_)
        · refine sim_some ?_
          refine evI_ret (x := x46) rfl rfl rfl ?_
          try simp only [nz, nzShape, nzForm] at f9
          try simp only [nz, nzShape, nzForm] at f43
          all_goals
            refine' (w_fn rfl rfl (w_seq (w_reg (w_cons ?_ (w_cons ?_ w_nil)) ?_) (w_go (w_seq (w_seq (w_reg (w_cons ?_ (w_cons ?_ (w_cons ?_ (w_cons ?_ (w_cons ?_ (w_cons ?_ (w_cons ?_ w_nil))))))) ?_) (w_go (w_condf ?_ w_skip ?_))) (w_go (w_seq (w_reg (w_cons ?_ w_nil) ?_) (w_go (w_seq (w_seq (w_reg (w_cons ?_ w_nil) ?_) (w_go (w_block f9 ?_))) (w_go (w_seq (w_seq (w_reg (w_cons ?_ (w_cons ?_ w_nil)) ?_) (w_go (w_condf ?_ w_skip ?_))) (w_go (w_seq (w_seq (w_reg (w_cons ?_ w_nil) ?_) (w_go (w_block f43 ?_))) (w_go (w_seq (w_seq (w_reg (w_cons ?_ (w_cons ?_ (w_cons ?_ (w_cons ?_ (w_cons ?_ w_nil))))) ?_) (w_go (w_condt ?_ (w_seq (w_reg (w_cons ?_ w_nil) ?_) (w_go w_ret)) ?_))) w_gor))))))))))))) ?_)
            all_goals (first | (simp only [x46, nz, rn, nzShape, nzForm, h1, h10, h44, Int.reduceLT, Int.reduceEq, List.contains_cons, List.contains_nil, Option.map_some, Option.map_none, reduceIte, reduceCtorEq, Nat.reduceEqDiff, Nat.reduceLT, Nat.reduceBEq, Nat.reduceAdd, Nat.reduceMul, Nat.reduceLeDiff, Nat.reduceSub, Bool.false_eq_true]; try rfl) | skip)
        · refine sim_some ?_
          refine evI_ret (x := x46) rfl rfl rfl ?_
          try simp only [nz, nzShape, nzForm] at f9
          try simp only [nz, nzShape, nzForm] at f43
          all_goals
            refine' (w_fn rfl rfl (w_seq (w_reg (w_cons ?_ (w_cons ?_ w_nil)) ?_) (w_go (w_seq (w_seq (w_reg (w_cons ?_ (w_cons ?_ (w_cons ?_ (w_cons ?_ (w_cons ?_ (w_cons ?_ (w_cons ?_ w_nil))))))) ?_) (w_go (w_condf ?_ w_skip ?_))) (w_go (w_seq (w_reg (w_cons ?_ w_nil) ?_) (w_go (w_seq (w_seq (w_reg (w_cons ?_ w_nil) ?_) (w_go (w_block f9 ?_))) (w_go (w_seq (w_seq (w_reg (w_cons ?_ (w_cons ?_ w_nil)) ?_) (w_go (w_condf ?_ w_skip ?_))) (w_go (w_seq (w_seq (w_reg (w_cons ?_ w_nil) ?_) (w_go (w_block f43 ?_))) (w_go (w_seq (w_seq (w_reg (w_cons ?_ (w_cons ?_ (w_cons ?_ (w_cons ?_ (w_cons ?_ w_nil))))) ?_) (w_go (w_condf ?_ w_skip ?_))) (w_go (w_seq (w_reg (w_cons ?_ w_nil) ?_) (w_go w_ret)))))))))))))))) ?_)
            all_goals (first | (simp only [x46, nz, rn, nzShape, nzForm, h1, h10, h44, Int.reduceLT, Int.reduceEq, List.contains_cons, List.contains_nil, Option.map_some, Option.map_none, reduceIte, reduceCtorEq, Nat.reduceEqDiff, Nat.reduceLT, Nat.reduceBEq, Nat.reduceAdd, Nat.reduceMul, Nat.reduceLeDiff, Nat.reduceSub, Bool.false_eq_true]; try rfl) | skip)
      · dsimp only
        have f43 := r28_Check_l26_ok p0 (v5, 0) _ h42
        dsimp only at f43
        refine sim_some ?_
        refine evI_ret (x := x46) rfl rfl rfl ?_
        try simp only [nz, nzShape, nzForm] at f9
        try simp only [nz, nzShape, nzForm] at f43
        all_goals
          refine' (w_fn rfl rfl (w_seq (w_reg (w_cons ?_ (w_cons ?_ w_nil)) ?_) (w_go (w_seq (w_seq (w_reg (w_cons ?_ (w_cons ?_ (w_cons ?_ (w_cons ?_ (w_cons ?_ (w_cons ?_ (w_cons ?_ w_nil))))))) ?_) (w_go (w_condf ?_ w_skip ?_))) (w_go (w_seq (w_reg (w_cons ?_ w_nil) ?_) (w_go (w_seq (w_seq (w_reg (w_cons ?_ w_nil) ?_) (w_go (w_block f9 ?_))) (w_go (w_seq (w_seq (w_reg (w_cons ?_ (w_cons ?_ w_nil)) ?_) (w_go (w_condf ?_ w_skip ?_))) (w_go (w_seq (w_seq (w_reg (w_cons ?_ w_nil) ?_) (w_go (w_block f43 ?_))) w_gor))))))))))) ?_)
          all_goals (first | (simp only [x46, nz, rn, nzShape, nzForm, h1, h10, Int.reduceLT, Int.reduceEq, List.contains_cons, List.contains_nil, Option.map_some, Option.map_none, reduceIte, reduceCtorEq, Nat.reduceEqDiff, Nat.reduceLT, Nat.reduceBEq, Nat.reduceAdd, Nat.reduceMul, Nat.reduceLeDiff, Nat.reduceSub, Bool.false_eq_true]; try rfl) | skip)
theorem r28_Check_okN (p0 : Form) : Sim (r28_Check p0) fun r => ∀ ws, ws.map normA = [.agg [.sl p0.Roots.length (p0.Roots.flatMap (cint .i64)), .sl p0.Shapes.length (p0.Shapes.flatMap cShape), .sl p0.Slots.length (p0.Slots.flatMap (csl (cint .i64)))]] → evI T 46 ws = some (.int .i64 r, [.none]) := fun r h => evI_okN (x := x46) rfl rfl rfl (r28_Check_ok p0 r h)
end Go.Ab

/-
  Printed by gen.py.
-/
namespace Go.Ab
open Go
set_option linter.unusedVariables false
set_option linter.unusedSimpArgs false
set_option maxRecDepth 100000
set_option maxHeartbeats 4000000
theorem slices_Equal_intint_l1_bok (p0 : List Int) (p1 : List Int) (v1 : Int) : Sim (slices_Equal_intint_l1_b p0 p1 v1) fun x => fgt [0, 1, 12, 13] (evX (evI T) x100_1 [(0, .sl p0.length (p0.flatMap (cint .i64))), (1, .sl p1.length (p1.flatMap (cint .i64))), (12, .int .i64 ((p0.length : Int))), (13, .int .i64 v1)]) = some (stpK (fun s => (.norm, [(0, .sl p0.length (p0.flatMap (cint .i64))), (1, .sl p1.length (p1.flatMap (cint .i64))), (12, .int .i64 ((p0.length : Int))), (13, .int .i64 s)])) (fun r => (stpK (fun t0 => (.exit 0, [])) (fun u0 => (.ret, [(4, .bool false)])) r)) x) := by
  unfold slices_Equal_intint_l1_b
  refine sim_if (fun h2 => ?_) (fun h2 => ?_)
  · refine sim_bind (fun x_2 h3 => ?_)
    have f4 := ix_ok h3
    have f4o := ix_own2 h3
    have f5 := ix_cells (sz_int .i64) h3
    simp only [nz] at f5
    refine sim_bind (fun x_3 h6 => ?_)
    have f7 := ix_ok h6
    have f7o := ix_own2 h6
    have f8 := ix_cells (sz_int .i64) h6
    simp only [nz] at f8
    refine sim_if (fun h9 => ?_) (fun h9 => ?_)
    · refine sim_some ?_
      refine' (w_fgt (w_seq (w_reg (w_cons ?_ w_nil) ?_) (w_go (w_seq (w_condt ?_ w_skip ?_) (w_go (w_seq (w_block (w_seq (w_reg (w_cons ?_ (w_cons ?_ w_nil)) ?_) (w_go (w_seq (w_regD ?_ ?_ (w_consD rfl ?_ ?_ ?_ (w_consD rfl ?_ ?_ ?_ (w_consD rfl ?_ ?_ ?_ (w_consD rfl ?_ ?_ ?_ (w_consD rfl ?_ ?_ ?_ (w_consD rfl ?_ ?_ ?_ (w_consD rfl ?_ ?_ ?_ (w_consD rfl ?_ ?_ ?_ (w_barD rfl rfl (w_cons ?_ w_nil)))))))))) ?_) (w_go (w_condt ?_ (w_seq (w_reg (w_cons ?_ w_nil) ?_) (w_go w_ret)) ?_))))) ?_) w_gor))))) ?_)
      all_goals (first | (simp only [nz, rn, h2, f4, f4o, f5, f7, f7o, f8, h9, Int.reduceLT, Int.reduceEq, List.contains_cons, List.contains_nil, Option.map_some, Option.map_none, reduceIte, reduceCtorEq, Nat.reduceEqDiff, Nat.reduceLT, Nat.reduceBEq, Nat.reduceAdd, Nat.reduceMul, Nat.reduceLeDiff, Nat.reduceSub, Bool.false_eq_true]; try rfl) | skip)
    · refine sim_some ?_
      refine' (w_fgt (w_seq (w_reg (w_cons ?_ w_nil) ?_) (w_go (w_seq (w_condt ?_ w_skip ?_) (w_go (w_seq (w_block (w_seq (w_reg (w_cons ?_ (w_cons ?_ w_nil)) ?_) (w_go (w_seq (w_regD ?_ ?_ (w_consD rfl ?_ ?_ ?_ (w_consD rfl ?_ ?_ ?_ (w_consD rfl ?_ ?_ ?_ (w_consD rfl ?_ ?_ ?_ (w_consD rfl ?_ ?_ ?_ (w_consD rfl ?_ ?_ ?_ (w_consD rfl ?_ ?_ ?_ (w_consD rfl ?_ ?_ ?_ (w_barD rfl rfl (w_cons ?_ w_nil)))))))))) ?_) (w_go (w_condf ?_ w_skip ?_))))) ?_) (w_go (w_reg (w_cons ?_ (w_cons ?_ w_nil)) ?_))))))) ?_)
      all_goals (first | (simp only [nz, rn, h2, f4, f4o, f5, f7, f7o, f8, h9, Int.reduceLT, Int.reduceEq, List.contains_cons, List.contains_nil, Option.map_some, Option.map_none, reduceIte, reduceCtorEq, Nat.reduceEqDiff, Nat.reduceLT, Nat.reduceBEq, Nat.reduceAdd, Nat.reduceMul, Nat.reduceLeDiff, Nat.reduceSub, Bool.false_eq_true]; try rfl) | skip)
  · refine sim_some ?_
    refine' (w_fgt (w_seq (w_reg (w_cons ?_ w_nil) ?_) (w_go (w_seq (w_condf ?_ (w_exit ?_) ?_) w_gox))) ?_)
    all_goals (first | (simp only [nz, rn, h2, Int.reduceLT, Int.reduceEq, List.contains_cons, List.contains_nil, Option.map_some, Option.map_none, reduceIte, reduceCtorEq, Nat.reduceEqDiff, Nat.reduceLT, Nat.reduceBEq, Nat.reduceAdd, Nat.reduceMul, Nat.reduceLeDiff, Nat.reduceSub, Bool.false_eq_true]; try rfl) | skip)
theorem slices_Equal_intint_l1_ok (p0 : List Int) (p1 : List Int) (s : Int) : Sim (slices_Equal_intint_l1 p0 p1 s) fun r => evX (evI T) (.loop x100_1 [0, 1, 12, 13]) [(0, .sl p0.length (p0.flatMap (cint .i64))), (1, .sl p1.length (p1.flatMap (cint .i64))), (12, .int .i64 ((p0.length : Int))), (13, .int .i64 s)] = some (stpK (fun t0 => (.exit 0, [])) (fun u0 => (.ret, [(4, .bool false)])) r) := by
  unfold slices_Equal_intint_l1
  exact loop_rule (C := evI T) (b := x100_1) (ks := [0, 1, 12, 13]) (σ := Int) (ρ := Stp Unit Unit) (body := fun s => slices_Equal_intint_l1_b p0 p1 s) (E := fun s => [(0, .sl p0.length (p0.flatMap (cint .i64))), (1, .sl p1.length (p1.flatMap (cint .i64))), (12, .int .i64 ((p0.length : Int))), (13, .int .i64 s)]) (R := fun r => (stpK (fun t0 => (.exit 0, [])) (fun u0 => (.ret, [(4, .bool false)])) r)) (fun r h => by rcases r with _ | _ <;> cases h) (fun s => slices_Equal_intint_l1_bok p0 p1 s) s
theorem slices_Equal_intint_ok (p0 : List Int) (p1 : List Int) : Sim (slices_Equal_intint p0 p1) fun r => evI T 100 [.sl p0.length (p0.flatMap (cint .i64)), .sl p1.length (p1.flatMap (cint .i64))] = some (.bool r, [.none, .none]) := by
  unfold slices_Equal_intint
  refine sim_if (fun h1 => ?_) (fun h1 => ?_)
  · refine sim_some ?_
    refine evI_ret (x := x100) rfl rfl rfl ?_
    refine' (w_fn rfl rfl (w_seq (w_reg (w_cons ?_ w_nil) ?_) (w_go (w_seq (w_seq (w_reg (w_cons ?_ (w_cons ?_ (w_cons ?_ (w_cons ?_ (w_cons ?_ w_nil))))) ?_) (w_go (w_condt ?_ (w_seq (w_reg (w_cons ?_ w_nil) ?_) (w_go w_ret)) ?_))) w_gor))) ?_)
    all_goals (first | (simp only [x100, nz, rn, h1, Int.reduceLT, Int.reduceEq, List.contains_cons, List.contains_nil, Option.map_some, Option.map_none, reduceIte, reduceCtorEq, Nat.reduceEqDiff, Nat.reduceLT, Nat.reduceBEq, Nat.reduceAdd, Nat.reduceMul, Nat.reduceLeDiff, Nat.reduceSub, Bool.false_eq_true]; try rfl) | skip)
  · refine sim_bind (fun qh10 h10 => ?_)
    rcases qh10 with ⟨_⟩ | ⟨_⟩
    · dsimp only
      have f11 := slices_Equal_intint_l1_ok p0 p1 0 _ h10
      dsimp only at f11
      refine sim_some ?_
      refine evI_ret (x := x100) rfl rfl rfl ?_
      try simp only [nz] at f11
      all_goals
        refine' (w_fn rfl rfl (w_seq (w_reg (w_cons ?_ w_nil) ?_) (w_go (w_seq (w_seq (w_reg (w_cons ?_ (w_cons ?_ (w_cons ?_ (w_cons ?_ (w_cons ?_ w_nil))))) ?_) (w_go (w_condf ?_ w_skip ?_))) (w_go (w_seq (w_seq (w_reg (w_cons ?_ (w_cons ?_ (w_cons ?_ w_nil))) ?_) (w_go (w_block f11 ?_))) (w_go (w_seq (w_reg (w_cons ?_ w_nil) ?_) (w_go w_ret)))))))) ?_)
        all_goals (first | (simp only [x100, nz, rn, h1, Int.reduceLT, Int.reduceEq, List.contains_cons, List.contains_nil, Option.map_some, Option.map_none, reduceIte, reduceCtorEq, Nat.reduceEqDiff, Nat.reduceLT, Nat.reduceBEq, Nat.reduceAdd, Nat.reduceMul, Nat.reduceLeDiff, Nat.reduceSub, Bool.false_eq_true]; try rfl) | skip)
    · dsimp only
      have f11 := slices_Equal_intint_l1_ok p0 p1 0 _ h10
      dsimp only at f11
      refine sim_some ?_
      refine evI_ret (x := x100) rfl rfl rfl ?_
      try simp only [nz] at f11
      all_goals
        refine' (w_fn rfl rfl (w_seq (w_reg (w_cons ?_ w_nil) ?_) (w_go (w_seq (w_seq (w_reg (w_cons ?_ (w_cons ?_ (w_cons ?_ (w_cons ?_ (w_cons ?_ w_nil))))) ?_) (w_go (w_condf ?_ w_skip ?_))) (w_go (w_seq (w_seq (w_reg (w_cons ?_ (w_cons ?_ (w_cons ?_ w_nil))) ?_) (w_go (w_block f11 ?_))) w_gor))))) ?_)
        all_goals (first | (simp only [x100, nz, rn, h1, Int.reduceLT, Int.reduceEq, List.contains_cons, List.contains_nil, Option.map_some, Option.map_none, reduceIte, reduceCtorEq, Nat.reduceEqDiff, Nat.reduceLT, Nat.reduceBEq, Nat.reduceAdd, Nat.reduceMul, Nat.reduceLeDiff, Nat.reduceSub, Bool.false_eq_true]; try rfl) | skip)
theorem slices_Equal_intint_okN (p0 : List Int) (p1 : List Int) : Sim (slices_Equal_intint p0 p1) fun r => ∀ ws, ws.map normA = [.sl p0.length (p0.flatMap (cint .i64)), .sl p1.length (p1.flatMap (cint .i64))] → evI T 100 ws = some (.bool r, [.none, .none]) := fun r h => evI_okN (x := x100) rfl rfl rfl (slices_Equal_intint_ok p0 p1 r h)
end Go.Ab

/-
  Printed by gen.py.
-/
namespace Go.Ab
open Go
set_option linter.unusedVariables false
set_option linter.unusedSimpArgs false
set_option maxRecDepth 100000
set_option maxHeartbeats 4000000
theorem slices_Equal_apiShapeapiShape_l1_bok (p0 : List Shape) (p1 : List Shape) (v1 : Int) : Sim (slices_Equal_apiShapeapiShape_l1_b p0 p1 v1) fun x => fgt [0, 1, 12, 13] (evX (evI T) x101_1 [(0, .sl p0.length (p0.flatMap cShape)), (1, .sl p1.length (p1.flatMap cShape)), (12, .int .i64 ((p0.length : Int))), (13, .int .i64 v1)]) = some (stpK (fun s => (.norm, [(0, .sl p0.length (p0.flatMap cShape)), (1, .sl p1.length (p1.flatMap cShape)), (12, .int .i64 ((p0.length : Int))), (13, .int .i64 s)])) (fun r => (stpK (fun t0 => (.exit 0, [])) (fun u0 => (.ret, [(4, .bool false)])) r)) x) := by
  unfold slices_Equal_apiShapeapiShape_l1_b
  refine sim_if (fun h2 => ?_) (fun h2 => ?_)
  · refine sim_bind (fun x_2 h3 => ?_)
    have f4 := ix_ok h3
    have f4o := ix_own2 h3
    have f5 := ix_cells szShape h3
    simp only [nz, nzShape] at f5
    refine sim_bind (fun x_3 h6 => ?_)
    have f7 := ix_ok h6
    have f7o := ix_own2 h6
    have f8 := ix_cells szShape h6
    simp only [nz, nzShape] at f8
    refine sim_if (fun h9 => ?_) (fun h9 => ?_)
    · refine sim_some ?_
      refine' (w_fgt (w_seq (w_reg (w_cons ?_ w_nil) ?_) (w_go (w_seq (w_condt ?_ w_skip ?_) (w_go (w_seq (w_block (w_seq (w_reg (w_cons ?_ (w_cons ?_ w_nil)) ?_) (w_go (w_seq (w_regD ?_ ?_ (w_consD rfl ?_ ?_ ?_ (w_consD rfl ?_ ?_ ?_ (w_consD rfl ?_ ?_ ?_ (w_consD rfl ?_ ?_ ?_ (w_consD rfl ?_ ?_ ?_ (w_consD rfl ?_ ?_ ?_ (w_consD rfl ?_ ?_ ?_ (w_consD rfl ?_ ?_ ?_ (w_barD rfl rfl (w_cons ?_ w_nil)))))))))) ?_) (w_go (w_condt ?_ (w_seq (w_reg (w_cons ?_ w_nil) ?_) (w_go w_ret)) ?_))))) ?_) w_gor))))) ?_)
      all_goals (first | (simp only [nz, rn, nzShape, h2, f4, f4o, f5, f7, f7o, f8, h9, Int.reduceLT, Int.reduceEq, List.contains_cons, List.contains_nil, Option.map_some, Option.map_none, reduceIte, reduceCtorEq, Nat.reduceEqDiff, Nat.reduceLT, Nat.reduceBEq, Nat.reduceAdd, Nat.reduceMul, Nat.reduceLeDiff, Nat.reduceSub, Bool.false_eq_true]; try rfl) | skip)
    · refine sim_some ?_
      refine' (w_fgt (w_seq (w_reg (w_cons ?_ w_nil) ?_) (w_go (w_seq (w_condt ?_ w_skip ?_) (w_go (w_seq (w_block (w_seq (w_reg (w_cons ?_ (w_cons ?_ w_nil)) ?_) (w_go (w_seq (w_regD ?_ ?_ (w_consD rfl ?_ ?_ ?_ (w_consD rfl ?_ ?_ ?_ (w_consD rfl ?_ ?_ ?_ (w_consD rfl ?_ ?_ ?_ (w_consD rfl ?_ ?_ ?_ (w_consD rfl ?_ ?_ ?_ (w_consD rfl ?_ ?_ ?_ (w_consD rfl ?_ ?_ ?_ (w_barD rfl rfl (w_cons ?_ w_nil)))))))))) ?_) (w_go (w_condf ?_ w_skip ?_))))) ?_) (w_go (w_reg (w_cons ?_ (w_cons ?_ w_nil)) ?_))))))) ?_)
      all_goals (first | (simp only [nz, rn, nzShape, h2, f4, f4o, f5, f7, f7o, f8, h9, Int.reduceLT, Int.reduceEq, List.contains_cons, List.contains_nil, Option.map_some, Option.map_none, reduceIte, reduceCtorEq, Nat.reduceEqDiff, Nat.reduceLT, Nat.reduceBEq, Nat.reduceAdd, Nat.reduceMul, Nat.reduceLeDiff, Nat.reduceSub, Bool.false_eq_true]; try rfl) | skip)
  · refine sim_some ?_
    refine' (w_fgt (w_seq (w_reg (w_cons ?_ w_nil) ?_) (w_go (w_seq (w_condf ?_ (w_exit ?_) ?_) w_gox))) ?_)
    all_goals (first | (simp only [nz, rn, nzShape, h2, Int.reduceLT, Int.reduceEq, List.contains_cons, List.contains_nil, Option.map_some, Option.map_none, reduceIte, reduceCtorEq, Nat.reduceEqDiff, Nat.reduceLT, Nat.reduceBEq, Nat.reduceAdd, Nat.reduceMul, Nat.reduceLeDiff, Nat.reduceSub, Bool.false_eq_true]; try rfl) | skip)
theorem slices_Equal_apiShapeapiShape_l1_ok (p0 : List Shape) (p1 : List Shape) (s : Int) : Sim (slices_Equal_apiShapeapiShape_l1 p0 p1 s) fun r => evX (evI T) (.loop x101_1 [0, 1, 12, 13]) [(0, .sl p0.length (p0.flatMap cShape)), (1, .sl p1.length (p1.flatMap cShape)), (12, .int .i64 ((p0.length : Int))), (13, .int .i64 s)] = some (stpK (fun t0 => (.exit 0, [])) (fun u0 => (.ret, [(4, .bool false)])) r) := by
  unfold slices_Equal_apiShapeapiShape_l1
  exact loop_rule (C := evI T) (b := x101_1) (ks := [0, 1, 12, 13]) (σ := Int) (ρ := Stp Unit Unit) (body := fun s => slices_Equal_apiShapeapiShape_l1_b p0 p1 s) (E := fun s => [(0, .sl p0.length (p0.flatMap cShape)), (1, .sl p1.length (p1.flatMap cShape)), (12, .int .i64 ((p0.length : Int))), (13, .int .i64 s)]) (R := fun r => (stpK (fun t0 => (.exit 0, [])) (fun u0 => (.ret, [(4, .bool false)])) r)) (fun r h => by rcases r with _ | _ <;> cases h) (fun s => slices_Equal_apiShapeapiShape_l1_bok p0 p1 s) s
theorem slices_Equal_apiShapeapiShape_ok (p0 : List Shape) (p1 : List Shape) : Sim (slices_Equal_apiShapeapiShape p0 p1) fun r => evI T 101 [.sl p0.length (p0.flatMap cShape), .sl p1.length (p1.flatMap cShape)] = some (.bool r, [.none, .none]) := by
  unfold slices_Equal_apiShapeapiShape
  refine sim_if (fun h1 => ?_) (fun h1 => ?_)
  · refine sim_some ?_
    refine evI_ret (x := x101) rfl rfl rfl ?_
    refine' (w_fn rfl rfl (w_seq (w_reg (w_cons ?_ w_nil) ?_) (w_go (w_seq (w_seq (w_reg (w_cons ?_ (w_cons ?_ (w_cons ?_ (w_cons ?_ (w_cons ?_ w_nil))))) ?_) (w_go (w_condt ?_ (w_seq (w_reg (w_cons ?_ w_nil) ?_) (w_go w_ret)) ?_))) w_gor))) ?_)
    all_goals (first | (simp only [x101, nz, rn, nzShape, h1, Int.reduceLT, Int.reduceEq, List.contains_cons, List.contains_nil, Option.map_some, Option.map_none, reduceIte, reduceCtorEq, Nat.reduceEqDiff, Nat.reduceLT, Nat.reduceBEq, Nat.reduceAdd, Nat.reduceMul, Nat.reduceLeDiff, Nat.reduceSub, Bool.false_eq_true]; try rfl) | skip)
  · refine sim_bind (fun qh10 h10 => ?_)
    rcases qh10 with ⟨_⟩ | ⟨_⟩
    · dsimp only
      have f11 := slices_Equal_apiShapeapiShape_l1_ok p0 p1 0 _ h10
      dsimp only at f11
      refine sim_some ?_
      refine evI_ret (x := x101) rfl rfl rfl ?_
      try simp only [nz, nzShape] at f11
      all_goals
        refine' (w_fn rfl rfl (w_seq (w_reg (w_cons ?_ w_nil) ?_) (w_go (w_seq (w_seq (w_reg (w_cons ?_ (w_cons ?_ (w_cons ?_ (w_cons ?_ (w_cons ?_ w_nil))))) ?_) (w_go (w_condf ?_ w_skip ?_))) (w_go (w_seq (w_seq (w_reg (w_cons ?_ (w_cons ?_ (w_cons ?_ w_nil))) ?_) (w_go (w_block f11 ?_))) (w_go (w_seq (w_reg (w_cons ?_ w_nil) ?_) (w_go w_ret)))))))) ?_)
        all_goals (first | (simp only [x101, nz, rn, nzShape, h1, Int.reduceLT, Int.reduceEq, List.contains_cons, List.contains_nil, Option.map_some, Option.map_none, reduceIte, reduceCtorEq, Nat.reduceEqDiff, Nat.reduceLT, Nat.reduceBEq, Nat.reduceAdd, Nat.reduceMul, Nat.reduceLeDiff, Nat.reduceSub, Bool.false_eq_true]; try rfl) | skip)
    · dsimp only
      have f11 := slices_Equal_apiShapeapiShape_l1_ok p0 p1 0 _ h10
      dsimp only at f11
      refine sim_some ?_
      refine evI_ret (x := x101) rfl rfl rfl ?_
      try simp only [nz, nzShape] at f11
      all_goals
        refine' (w_fn rfl rfl (w_seq (w_reg (w_cons ?_ w_nil) ?_) (w_go (w_seq (w_seq (w_reg (w_cons ?_ (w_cons ?_ (w_cons ?_ (w_cons ?_ (w_cons ?_ w_nil))))) ?_) (w_go (w_condf ?_ w_skip ?_))) (w_go (w_seq (w_seq (w_reg (w_cons ?_ (w_cons ?_ (w_cons ?_ w_nil))) ?_) (w_go (w_block f11 ?_))) w_gor))))) ?_)
        all_goals (first | (simp only [x101, nz, rn, nzShape, h1, Int.reduceLT, Int.reduceEq, List.contains_cons, List.contains_nil, Option.map_some, Option.map_none, reduceIte, reduceCtorEq, Nat.reduceEqDiff, Nat.reduceLT, Nat.reduceBEq, Nat.reduceAdd, Nat.reduceMul, Nat.reduceLeDiff, Nat.reduceSub, Bool.false_eq_true]; try rfl) | skip)
theorem slices_Equal_apiShapeapiShape_okN (p0 : List Shape) (p1 : List Shape) : Sim (slices_Equal_apiShapeapiShape p0 p1) fun r => ∀ ws, ws.map normA = [.sl p0.length (p0.flatMap cShape), .sl p1.length (p1.flatMap cShape)] → evI T 101 ws = some (.bool r, [.none, .none]) := fun r h => evI_okN (x := x101) rfl rfl rfl (slices_Equal_apiShapeapiShape_ok p0 p1 r h)
end Go.Ab

/-
  Printed by gen.py.
-/
namespace Go.Ab
open Go
set_option linter.unusedVariables false
set_option linter.unusedSimpArgs false
set_option maxRecDepth 100000
set_option maxHeartbeats 4000000
theorem slices_Equal_int64int64_l1_bok (p0 : List Int) (p1 : List Int) (v1 : Int) : Sim (slices_Equal_int64int64_l1_b p0 p1 v1) fun x => fgt [0, 1, 12, 13] (evX (evI T) x102_1 [(0, .sl p0.length (p0.flatMap (cint .i64))), (1, .sl p1.length (p1.flatMap (cint .i64))), (12, .int .i64 ((p0.length : Int))), (13, .int .i64 v1)]) = some (stpK (fun s => (.norm, [(0, .sl p0.length (p0.flatMap (cint .i64))), (1, .sl p1.length (p1.flatMap (cint .i64))), (12, .int .i64 ((p0.length : Int))), (13, .int .i64 s)])) (fun r => (stpK (fun t0 => (.exit 0, [])) (fun u0 => (.ret, [(4, .bool false)])) r)) x) := by
  unfold slices_Equal_int64int64_l1_b
  refine sim_if (fun h2 => ?_) (fun h2 => ?_)
  · refine sim_bind (fun x_2 h3 => ?_)
    have f4 := ix_ok h3
    have f4o := ix_own2 h3
    have f5 := ix_cells (sz_int .i64) h3
    simp only [nz] at f5
    refine sim_bind (fun x_3 h6 => ?_)
    have f7 := ix_ok h6
    have f7o := ix_own2 h6
    have f8 := ix_cells (sz_int .i64) h6
    simp only [nz] at f8
    refine sim_if (fun h9 => ?_) (fun h9 => ?_)
    · refine sim_some ?_
      refine' (w_fgt (w_seq (w_reg (w_cons ?_ w_nil) ?_) (w_go (w_seq (w_condt ?_ w_skip ?_) (w_go (w_seq (w_block (w_seq (w_reg (w_cons ?_ (w_cons ?_ w_nil)) ?_) (w_go (w_seq (w_regD ?_ ?_ (w_consD rfl ?_ ?_ ?_ (w_consD rfl ?_ ?_ ?_ (w_consD rfl ?_ ?_ ?_ (w_consD rfl ?_ ?_ ?_ (w_consD rfl ?_ ?_ ?_ (w_consD rfl ?_ ?_ ?_ (w_consD rfl ?_ ?_ ?_ (w_consD rfl ?_ ?_ ?_ (w_barD rfl rfl (w_cons ?_ w_nil)))))))))) ?_) (w_go (w_condt ?_ (w_seq (w_reg (w_cons ?_ w_nil) ?_) (w_go w_ret)) ?_))))) ?_) w_gor))))) ?_)
      all_goals (first | (simp only [nz, rn, h2, f4, f4o, f5, f7, f7o, f8, h9, Int.reduceLT, Int.reduceEq, List.contains_cons, List.contains_nil, Option.map_some, Option.map_none, reduceIte, reduceCtorEq, Nat.reduceEqDiff, Nat.reduceLT, Nat.reduceBEq, Nat.reduceAdd, Nat.reduceMul, Nat.reduceLeDiff, Nat.reduceSub, Bool.false_eq_true]; try rfl) | skip)
    · refine sim_some ?_
      refine' (w_fgt (w_seq (w_reg (w_cons ?_ w_nil) ?_) (w_go (w_seq (w_condt ?_ w_skip ?_) (w_go (w_seq (w_block (w_seq (w_reg (w_cons ?_ (w_cons ?_ w_nil)) ?_) (w_go (w_seq (w_regD ?_ ?_ (w_consD rfl ?_ ?_ ?_ (w_consD rfl ?_ ?_ ?_ (w_consD rfl ?_ ?_ ?_ (w_consD rfl ?_ ?_ ?_ (w_consD rfl ?_ ?_ ?_ (w_consD rfl ?_ ?_ ?_ (w_consD rfl ?_ ?_ ?_ (w_consD rfl ?_ ?_ ?_ (w_barD rfl rfl (w_cons ?_ w_nil)))))))))) ?_) (w_go (w_condf ?_ w_skip ?_))))) ?_) (w_go (w_reg (w_cons ?_ (w_cons ?_ w_nil)) ?_))))))) ?_)
      all_goals (first | (simp only [nz, rn, h2, f4, f4o, f5, f7, f7o, f8, h9, Int.reduceLT, Int.reduceEq, List.contains_cons, List.contains_nil, Option.map_some, Option.map_none, reduceIte, reduceCtorEq, Nat.reduceEqDiff, Nat.reduceLT, Nat.reduceBEq, Nat.reduceAdd, Nat.reduceMul, Nat.reduceLeDiff, Nat.reduceSub, Bool.false_eq_true]; try rfl) | skip)
  · refine sim_some ?_
    refine' (w_fgt (w_seq (w_reg (w_cons ?_ w_nil) ?_) (w_go (w_seq (w_condf ?_ (w_exit ?_) ?_) w_gox))) ?_)
    all_goals (first | (simp only [nz, rn, h2, Int.reduceLT, Int.reduceEq, List.contains_cons, List.contains_nil, Option.map_some, Option.map_none, reduceIte, reduceCtorEq, Nat.reduceEqDiff, Nat.reduceLT, Nat.reduceBEq, Nat.reduceAdd, Nat.reduceMul, Nat.reduceLeDiff, Nat.reduceSub, Bool.false_eq_true]; try rfl) | skip)
theorem slices_Equal_int64int64_l1_ok (p0 : List Int) (p1 : List Int) (s : Int) : Sim (slices_Equal_int64int64_l1 p0 p1 s) fun r => evX (evI T) (.loop x102_1 [0, 1, 12, 13]) [(0, .sl p0.length (p0.flatMap (cint .i64))), (1, .sl p1.length (p1.flatMap (cint .i64))), (12, .int .i64 ((p0.length : Int))), (13, .int .i64 s)] = some (stpK (fun t0 => (.exit 0, [])) (fun u0 => (.ret, [(4, .bool false)])) r) := by
  unfold slices_Equal_int64int64_l1
  exact loop_rule (C := evI T) (b := x102_1) (ks := [0, 1, 12, 13]) (σ := Int) (ρ := Stp Unit Unit) (body := fun s => slices_Equal_int64int64_l1_b p0 p1 s) (E := fun s => [(0, .sl p0.length (p0.flatMap (cint .i64))), (1, .sl p1.length (p1.flatMap (cint .i64))), (12, .int .i64 ((p0.length : Int))), (13, .int .i64 s)]) (R := fun r => (stpK (fun t0 => (.exit 0, [])) (fun u0 => (.ret, [(4, .bool false)])) r)) (fun r h => by rcases r with _ | _ <;> cases h) (fun s => slices_Equal_int64int64_l1_bok p0 p1 s) s
theorem slices_Equal_int64int64_ok (p0 : List Int) (p1 : List Int) : Sim (slices_Equal_int64int64 p0 p1) fun r => evI T 102 [.sl p0.length (p0.flatMap (cint .i64)), .sl p1.length (p1.flatMap (cint .i64))] = some (.bool r, [.none, .none]) := by
  unfold slices_Equal_int64int64
  refine sim_if (fun h1 => ?_) (fun h1 => ?_)
  · refine sim_some ?_
    refine evI_ret (x := x102) rfl rfl rfl ?_
    refine' (w_fn rfl rfl (w_seq (w_reg (w_cons ?_ w_nil) ?_) (w_go (w_seq (w_seq (w_reg (w_cons ?_ (w_cons ?_ (w_cons ?_ (w_cons ?_ (w_cons ?_ w_nil))))) ?_) (w_go (w_condt ?_ (w_seq (w_reg (w_cons ?_ w_nil) ?_) (w_go w_ret)) ?_))) w_gor))) ?_)
    all_goals (first | (simp only [x102, nz, rn, h1, Int.reduceLT, Int.reduceEq, List.contains_cons, List.contains_nil, Option.map_some, Option.map_none, reduceIte, reduceCtorEq, Nat.reduceEqDiff, Nat.reduceLT, Nat.reduceBEq, Nat.reduceAdd, Nat.reduceMul, Nat.reduceLeDiff, Nat.reduceSub, Bool.false_eq_true]; try rfl) | skip)
  · refine sim_bind (fun qh10 h10 => ?_)
    rcases qh10 with ⟨_⟩ | ⟨_⟩
    · dsimp only
      have f11 := slices_Equal_int64int64_l1_ok p0 p1 0 _ h10
      dsimp only at f11
      refine sim_some ?_
      refine evI_ret (x := x102) rfl rfl rfl ?_
      try simp only [nz] at f11
      all_goals
        refine' (w_fn rfl rfl (w_seq (w_reg (w_cons ?_ w_nil) ?_) (w_go (w_seq (w_seq (w_reg (w_cons ?_ (w_cons ?_ (w_cons ?_ (w_cons ?_ (w_cons ?_ w_nil))))) ?_) (w_go (w_condf ?_ w_skip ?_))) (w_go (w_seq (w_seq (w_reg (w_cons ?_ (w_cons ?_ (w_cons ?_ w_nil))) ?_) (w_go (w_block f11 ?_))) (w_go (w_seq (w_reg (w_cons ?_ w_nil) ?_) (w_go w_ret)))))))) ?_)
        all_goals (first | (simp only [x102, nz, rn, h1, Int.reduceLT, Int.reduceEq, List.contains_cons, List.contains_nil, Option.map_some, Option.map_none, reduceIte, reduceCtorEq, Nat.reduceEqDiff, Nat.reduceLT, Nat.reduceBEq, Nat.reduceAdd, Nat.reduceMul, Nat.reduceLeDiff, Nat.reduceSub, Bool.false_eq_true]; try rfl) | skip)
    · dsimp only
      have f11 := slices_Equal_int64int64_l1_ok p0 p1 0 _ h10
      dsimp only at f11
      refine sim_some ?_
      refine evI_ret (x := x102) rfl rfl rfl ?_
      try simp only [nz] at f11
      all_goals
        refine' (w_fn rfl rfl (w_seq (w_reg (w_cons ?_ w_nil) ?_) (w_go (w_seq (w_seq (w_reg (w_cons ?_ (w_cons ?_ (w_cons ?_ (w_cons ?_ (w_cons ?_ w_nil))))) ?_) (w_go (w_condf ?_ w_skip ?_))) (w_go (w_seq (w_seq (w_reg (w_cons ?_ (w_cons ?_ (w_cons ?_ w_nil))) ?_) (w_go (w_block f11 ?_))) w_gor))))) ?_)
        all_goals (first | (simp only [x102, nz, rn, h1, Int.reduceLT, Int.reduceEq, List.contains_cons, List.contains_nil, Option.map_some, Option.map_none, reduceIte, reduceCtorEq, Nat.reduceEqDiff, Nat.reduceLT, Nat.reduceBEq, Nat.reduceAdd, Nat.reduceMul, Nat.reduceLeDiff, Nat.reduceSub, Bool.false_eq_true]; try rfl) | skip)
theorem slices_Equal_int64int64_okN (p0 : List Int) (p1 : List Int) : Sim (slices_Equal_int64int64 p0 p1) fun r => ∀ ws, ws.map normA = [.sl p0.length (p0.flatMap (cint .i64)), .sl p1.length (p1.flatMap (cint .i64))] → evI T 102 ws = some (.bool r, [.none, .none]) := fun r h => evI_okN (x := x102) rfl rfl rfl (slices_Equal_int64int64_ok p0 p1 r h)
end Go.Ab

/-
  Printed by gen.py.
-/
namespace Go.Ab
open Go
set_option linter.unusedVariables false
set_option linter.unusedSimpArgs false
set_option maxRecDepth 100000
set_option maxHeartbeats 4000000
theorem canon_Same_j1_ok (p0 : Form) (p1 : Form) : Sim (canon_Same_j1 p0 p1) fun r => evX (evI T) x47_1 [(2, .box [.sl p0.Roots.length (p0.Roots.flatMap (cint .i64)), .sl p0.Shapes.length (p0.Shapes.flatMap cShape), .sl p0.Slots.length (p0.Slots.flatMap (csl (cint .i64)))]), (3, .box [.sl p1.Roots.length (p1.Roots.flatMap (cint .i64)), .sl p1.Shapes.length (p1.Shapes.flatMap cShape), .sl p1.Slots.length (p1.Slots.flatMap (csl (cint .i64)))])] = some (.norm, [(2, .box [.sl p0.Roots.length (p0.Roots.flatMap (cint .i64)), .sl p0.Shapes.length (p0.Shapes.flatMap cShape), .sl p0.Slots.length (p0.Slots.flatMap (csl (cint .i64)))]), (3, .box [.sl p1.Roots.length (p1.Roots.flatMap (cint .i64)), .sl p1.Shapes.length (p1.Shapes.flatMap cShape), .sl p1.Slots.length (p1.Slots.flatMap (csl (cint .i64)))]), (28, .bool r)]) := by
  unfold canon_Same_j1
  refine sim_bind (fun r1 h1 => ?_)
  have f2 := slices_Equal_intint_okN p0.Roots p1.Roots _ h1
  dsimp only at f2
  refine sim_if (fun h3 => ?_) (fun h3 => ?_)
  · refine sim_some ?_
    try simp only [nz, nzShape, nzForm] at f2
    all_goals
      refine' (w_reg (w_cons ?_ (w_cons ?_ (w_cons ?_ (w_cons ?_ (w_cons ?_ (w_cons ?_ (w_cons ?_ (w_cons ?_ (w_cons ?_ (w_cons ?_ (w_cons ?_ (w_cons ?_ (w_cons ?_ (w_cons ?_ (w_cons ?_ (w_cons ?_ (w_cons ?_ (w_cons ?_ (w_cons ?_ (w_cons ?_ (w_cons ?_ (w_cons ?_ (w_cons ?_ w_nil))))))))))))))))))))))) ?_)
      all_goals (first | (simp only [nz, rn, nzShape, nzForm, f2, h3, Int.reduceLT, Int.reduceEq, List.contains_cons, List.contains_nil, Option.map_some, Option.map_none, reduceIte, reduceCtorEq, Nat.reduceEqDiff, Nat.reduceLT, Nat.reduceBEq, Nat.reduceAdd, Nat.reduceMul, Nat.reduceLeDiff, Nat.reduceSub, Bool.false_eq_true]; try rfl) | skip)
  · refine sim_bind (fun r2 h4 => ?_)
    have f5 := slices_Equal_apiShapeapiShape_okN p0.Shapes p1.Shapes _ h4
    dsimp only at f5
    refine sim_if (fun h6 => ?_) (fun h6 => ?_)
    · refine sim_some ?_
      try simp only [nz, nzShape, nzForm] at f2
      try simp only [nz, nzShape, nzForm] at f5
      all_goals
        refine' (w_reg (w_cons ?_ (w_cons ?_ (w_cons ?_ (w_cons ?_ (w_cons ?_ (w_cons ?_ (w_cons ?_ (w_cons ?_ (w_cons ?_ (w_cons ?_ (w_cons ?_ (w_cons ?_ (w_cons ?_ (w_cons ?_ (w_cons ?_ (w_cons ?_ (w_cons ?_ (w_cons ?_ (w_cons ?_ (w_cons ?_ (w_cons ?_ (w_cons ?_ (w_cons ?_ w_nil))))))))))))))))))))))) ?_)
        all_goals (first | (simp only [nz, rn, nzShape, nzForm, f2, h3, f5, h6, Int.reduceLT, Int.reduceEq, List.contains_cons, List.contains_nil, Option.map_some, Option.map_none, reduceIte, reduceCtorEq, Nat.reduceEqDiff, Nat.reduceLT, Nat.reduceBEq, Nat.reduceAdd, Nat.reduceMul, Nat.reduceLeDiff, Nat.reduceSub, Bool.false_eq_true]; try rfl) | skip)
    · refine sim_some ?_
      try simp only [nz, nzShape, nzForm] at f2
      try simp only [nz, nzShape, nzForm] at f5
      all_goals
        refine' (w_reg (w_cons ?_ (w_cons ?_ (w_cons ?_ (w_cons ?_ (w_cons ?_ (w_cons ?_ (w_cons ?_ (w_cons ?_ (w_cons ?_ (w_cons ?_ (w_cons ?_ (w_cons ?_ (w_cons ?_ (w_cons ?_ (w_cons ?_ (w_cons ?_ (w_cons ?_ (w_cons ?_ (w_cons ?_ (w_cons ?_ (w_cons ?_ (w_cons ?_ (w_cons ?_ w_nil))))))))))))))))))))))) ?_)
        all_goals (first | (simp only [nz, rn, nzShape, nzForm, f2, h3, f5, h6, Int.reduceLT, Int.reduceEq, List.contains_cons, List.contains_nil, Option.map_some, Option.map_none, reduceIte, reduceCtorEq, Nat.reduceEqDiff, Nat.reduceLT, Nat.reduceBEq, Nat.reduceAdd, Nat.reduceMul, Nat.reduceLeDiff, Nat.reduceSub, Bool.false_eq_true]; try rfl) | skip)
theorem canon_Same_l2_bok (p0 : Form) (p1 : Form) (v4 : Int) : Sim (canon_Same_l2_b p0 p1 v4) fun x => fgt [2, 3, 31, 32] (evX (evI T) x47_2 [(2, .box [.sl p0.Roots.length (p0.Roots.flatMap (cint .i64)), .sl p0.Shapes.length (p0.Shapes.flatMap cShape), .sl p0.Slots.length (p0.Slots.flatMap (csl (cint .i64)))]), (3, .box [.sl p1.Roots.length (p1.Roots.flatMap (cint .i64)), .sl p1.Shapes.length (p1.Shapes.flatMap cShape), .sl p1.Slots.length (p1.Slots.flatMap (csl (cint .i64)))]), (31, .int .i64 ((p0.Slots.length : Int))), (32, .int .i64 v4)]) = some (stpK (fun s => (.norm, [(2, .box [.sl p0.Roots.length (p0.Roots.flatMap (cint .i64)), .sl p0.Shapes.length (p0.Shapes.flatMap cShape), .sl p0.Slots.length (p0.Slots.flatMap (csl (cint .i64)))]), (3, .box [.sl p1.Roots.length (p1.Roots.flatMap (cint .i64)), .sl p1.Shapes.length (p1.Shapes.flatMap cShape), .sl p1.Slots.length (p1.Slots.flatMap (csl (cint .i64)))]), (31, .int .i64 ((p0.Slots.length : Int))), (32, .int .i64 s)])) (fun r => (stpK (fun t0 => (.exit 0, [])) (fun u0 => (.ret, [(4, .bool false)])) r)) x) := by
  unfold canon_Same_l2_b
  refine sim_if (fun h10 => ?_) (fun h10 => ?_)
  · refine sim_bind (fun x_5 h11 => ?_)
    have f12 := ix_ok h11
    have f12o := ix_own2 h11
    have f13 := ix_cells (sz_sl (cint .i64)) h11
    simp only [nz, nzShape, nzForm] at f13
    refine sim_bind (fun x_6 h14 => ?_)
    have f15 := ix_ok h14
    have f15o := ix_own2 h14
    have f16 := ix_cells (sz_sl (cint .i64)) h14
    simp only [nz, nzShape, nzForm] at f16
    refine sim_bind (fun r7 h17 => ?_)
    have f18 := slices_Equal_int64int64_okN x_5 x_6 _ h17
    dsimp only at f18
    refine sim_if (fun h19 => ?_) (fun h19 => ?_)
    · refine sim_some ?_
      try simp only [nz, nzShape, nzForm] at f18
      all_goals
        refine' (w_fgt (w_seq (w_reg (w_cons ?_ w_nil) ?_) (w_go (w_seq (w_condt ?_ w_skip ?_) (w_go (w_seq (w_block (w_seq (w_reg (w_cons ?_ (w_cons ?_ w_nil)) ?_) (w_go (w_seq (w_regD ?_ ?_ (w_consD rfl ?_ ?_ ?_ (w_consD rfl ?_ ?_ ?_ (w_consD rfl ?_ ?_ ?_ (w_consD rfl ?_ ?_ ?_ (w_consD rfl ?_ ?_ ?_ (w_consD rfl ?_ ?_ ?_ (w_consD rfl ?_ ?_ ?_ (w_consD rfl ?_ ?_ ?_ (w_consD rfl ?_ ?_ ?_ (w_consD rfl ?_ ?_ ?_ (w_barD rfl rfl (w_cons ?_ (w_cons ?_ w_nil))))))))))))) ?_) (w_go (w_condt ?_ (w_seq (w_reg (w_cons ?_ w_nil) ?_) (w_go w_ret)) ?_))))) ?_) w_gor))))) ?_)
        all_goals (first | (simp only [nz, rn, nzShape, nzForm, h10, f12, f12o, f13, f15, f15o, f16, f18, h19, Int.reduceLT, Int.reduceEq, List.contains_cons, List.contains_nil, Option.map_some, Option.map_none, reduceIte, reduceCtorEq, Nat.reduceEqDiff, Nat.reduceLT, Nat.reduceBEq, Nat.reduceAdd, Nat.reduceMul, Nat.reduceLeDiff, Nat.reduceSub, Bool.false_eq_true]; try rfl) | skip)
    · refine sim_some ?_
      try simp only [nz, nzShape, nzForm] at f18
      all_goals
        refine' (w_fgt (w_seq (w_reg (w_cons ?_ w_nil) ?_) (w_go (w_seq (w_condt ?_ w_skip ?_) (w_go (w_seq (w_block (w_seq (w_reg (w_cons ?_ (w_cons ?_ w_nil)) ?_) (w_go (w_seq (w_regD ?_ ?_ (w_consD rfl ?_ ?_ ?_ (w_consD rfl ?_ ?_ ?_ (w_consD rfl ?_ ?_ ?_ (w_consD rfl ?_ ?_ ?_ (w_consD rfl ?_ ?_ ?_ (w_consD rfl ?_ ?_ ?_ (w_consD rfl ?_ ?_ ?_ (w_consD rfl ?_ ?_ ?_ (w_consD rfl ?_ ?_ ?_ (w_consD rfl ?_ ?_ ?_ (w_barD rfl rfl (w_cons ?_ (w_cons ?_ w_nil))))))))))))) ?_) (w_go (w_condf ?_ w_skip ?_))))) ?_) (w_go (w_reg (w_cons ?_ (w_cons ?_ w_nil)) ?_))))))) ?_)
        all_goals (first | (simp only [nz, rn, nzShape, nzForm, h10, f12, f12o, f13, f15, f15o, f16, f18, h19, Int.reduceLT, Int.reduceEq, List.contains_cons, List.contains_nil, Option.map_some, Option.map_none, reduceIte, reduceCtorEq, Nat.reduceEqDiff, Nat.reduceLT, Nat.reduceBEq, Nat.reduceAdd, Nat.reduceMul, Nat.reduceLeDiff, Nat.reduceSub, Bool.false_eq_true]; try rfl) | skip)
  · refine sim_some ?_
    refine' (w_fgt (w_seq (w_reg (w_cons ?_ w_nil) ?_) (w_go (w_seq (w_condf ?_ (w_exit ?_) ?_) w_gox))) ?_)
    all_goals (first | (simp only [nz, rn, nzShape, nzForm, h10, Int.reduceLT, Int.reduceEq, List.contains_cons, List.contains_nil, Option.map_some, Option.map_none, reduceIte, reduceCtorEq, Nat.reduceEqDiff, Nat.reduceLT, Nat.reduceBEq, Nat.reduceAdd, Nat.reduceMul, Nat.reduceLeDiff, Nat.reduceSub, Bool.false_eq_true]; try rfl) | skip)
theorem canon_Same_l2_ok (p0 : Form) (p1 : Form) (s : Int) : Sim (canon_Same_l2 p0 p1 s) fun r => evX (evI T) (.loop x47_2 [2, 3, 31, 32]) [(2, .box [.sl p0.Roots.length (p0.Roots.flatMap (cint .i64)), .sl p0.Shapes.length (p0.Shapes.flatMap cShape), .sl p0.Slots.length (p0.Slots.flatMap (csl (cint .i64)))]), (3, .box [.sl p1.Roots.length (p1.Roots.flatMap (cint .i64)), .sl p1.Shapes.length (p1.Shapes.flatMap cShape), .sl p1.Slots.length (p1.Slots.flatMap (csl (cint .i64)))]), (31, .int .i64 ((p0.Slots.length : Int))), (32, .int .i64 s)] = some (stpK (fun t0 => (.exit 0, [])) (fun u0 => (.ret, [(4, .bool false)])) r) := by
  unfold canon_Same_l2
  exact loop_rule (C := evI T) (b := x47_2) (ks := [2, 3, 31, 32]) (σ := Int) (ρ := Stp Unit Unit) (body := fun s => canon_Same_l2_b p0 p1 s) (E := fun s => [(2, .box [.sl p0.Roots.length (p0.Roots.flatMap (cint .i64)), .sl p0.Shapes.length (p0.Shapes.flatMap cShape), .sl p0.Slots.length (p0.Slots.flatMap (csl (cint .i64)))]), (3, .box [.sl p1.Roots.length (p1.Roots.flatMap (cint .i64)), .sl p1.Shapes.length (p1.Shapes.flatMap cShape), .sl p1.Slots.length (p1.Slots.flatMap (csl (cint .i64)))]), (31, .int .i64 ((p0.Slots.length : Int))), (32, .int .i64 s)]) (R := fun r => (stpK (fun t0 => (.exit 0, [])) (fun u0 => (.ret, [(4, .bool false)])) r)) (fun r h => by rcases r with _ | _ <;> cases h) (fun s => canon_Same_l2_bok p0 p1 s) s
theorem canon_Same_ok (p0 : Form) (p1 : Form) : Sim (canon_Same p0 p1) fun r => evI T 47 [.agg [.sl p0.Roots.length (p0.Roots.flatMap (cint .i64)), .sl p0.Shapes.length (p0.Shapes.flatMap cShape), .sl p0.Slots.length (p0.Slots.flatMap (csl (cint .i64)))], .agg [.sl p1.Roots.length (p1.Roots.flatMap (cint .i64)), .sl p1.Shapes.length (p1.Shapes.flatMap cShape), .sl p1.Slots.length (p1.Slots.flatMap (csl (cint .i64)))]] = some (.bool r, [.none, .none]) := by
  unfold canon_Same
  refine sim_bind (fun v3 h7 => ?_)
  have f8 := canon_Same_j1_ok p0 p1 _ h7
  dsimp only at f8
  refine sim_if (fun h9 => ?_) (fun h9 => ?_)
  · refine sim_some ?_
    refine evI_ret (x := x47) rfl rfl rfl ?_
    try simp only [nz, nzShape, nzForm] at f8
    all_goals
      refine' (w_fn rfl rfl (w_seq (w_reg (w_cons ?_ (w_cons ?_ (w_cons ?_ w_nil))) ?_) (w_go (w_seq (w_seq f8 (w_go (w_condt ?_ (w_seq (w_reg (w_cons ?_ w_nil) ?_) (w_go w_ret)) ?_))) w_gor))) ?_)
      all_goals (first | (simp only [x47, nz, rn, nzShape, nzForm, h9, Int.reduceLT, Int.reduceEq, List.contains_cons, List.contains_nil, Option.map_some, Option.map_none, reduceIte, reduceCtorEq, Nat.reduceEqDiff, Nat.reduceLT, Nat.reduceBEq, Nat.reduceAdd, Nat.reduceMul, Nat.reduceLeDiff, Nat.reduceSub, Bool.false_eq_true]; try rfl) | skip)
  · refine sim_bind (fun qh20 h20 => ?_)
    rcases qh20 with ⟨_⟩ | ⟨_⟩
    · dsimp only
      have f21 := canon_Same_l2_ok p0 p1 0 _ h20
      dsimp only at f21
      refine sim_some ?_
      refine evI_ret (x := x47) rfl rfl rfl ?_
      try simp only [nz, nzShape, nzForm] at f8
      try simp only [nz, nzShape, nzForm] at f21
      all_goals
        refine' (w_fn rfl rfl (w_seq (w_reg (w_cons ?_ (w_cons ?_ (w_cons ?_ w_nil))) ?_) (w_go (w_seq (w_seq f8 (w_go (w_condf ?_ w_skip ?_))) (w_go (w_seq (w_seq (w_reg (w_cons ?_ (w_cons ?_ (w_cons ?_ (w_cons ?_ w_nil)))) ?_) (w_go (w_block f21 ?_))) (w_go (w_seq (w_reg (w_cons ?_ w_nil) ?_) (w_go w_ret)))))))) ?_)
        all_goals (first | (simp only [x47, nz, rn, nzShape, nzForm, h9, Int.reduceLT, Int.reduceEq, List.contains_cons, List.contains_nil, Option.map_some, Option.map_none, reduceIte, reduceCtorEq, Nat.reduceEqDiff, Nat.reduceLT, Nat.reduceBEq, Nat.reduceAdd, Nat.reduceMul, Nat.reduceLeDiff, Nat.reduceSub, Bool.false_eq_true]; try rfl) | skip)
    · dsimp only
      have f21 := canon_Same_l2_ok p0 p1 0 _ h20
      dsimp only at f21
      refine sim_some ?_
      refine evI_ret (x := x47) rfl rfl rfl ?_
      try simp only [nz, nzShape, nzForm] at f8
      try simp only [nz, nzShape, nzForm] at f21
      all_goals
        refine' (w_fn rfl rfl (w_seq (w_reg (w_cons ?_ (w_cons ?_ (w_cons ?_ w_nil))) ?_) (w_go (w_seq (w_seq f8 (w_go (w_condf ?_ w_skip ?_))) (w_go (w_seq (w_seq (w_reg (w_cons ?_ (w_cons ?_ (w_cons ?_ (w_cons ?_ w_nil)))) ?_) (w_go (w_block f21 ?_))) w_gor))))) ?_)
        all_goals (first | (simp only [x47, nz, rn, nzShape, nzForm, h9, Int.reduceLT, Int.reduceEq, List.contains_cons, List.contains_nil, Option.map_some, Option.map_none, reduceIte, reduceCtorEq, Nat.reduceEqDiff, Nat.reduceLT, Nat.reduceBEq, Nat.reduceAdd, Nat.reduceMul, Nat.reduceLeDiff, Nat.reduceSub, Bool.false_eq_true]; try rfl) | skip)
theorem canon_Same_okN (p0 : Form) (p1 : Form) : Sim (canon_Same p0 p1) fun r => ∀ ws, ws.map normA = [.agg [.sl p0.Roots.length (p0.Roots.flatMap (cint .i64)), .sl p0.Shapes.length (p0.Shapes.flatMap cShape), .sl p0.Slots.length (p0.Slots.flatMap (csl (cint .i64)))], .agg [.sl p1.Roots.length (p1.Roots.flatMap (cint .i64)), .sl p1.Shapes.length (p1.Shapes.flatMap cShape), .sl p1.Slots.length (p1.Slots.flatMap (csl (cint .i64)))]] → evI T 47 ws = some (.bool r, [.none, .none]) := fun r h => evI_okN (x := x47) rfl rfl rfl (canon_Same_ok p0 p1 r h)
end Go.Ab

/-
  Printed by gen.py.
-/
namespace Go.Ab
open Go
set_option linter.unusedVariables false
set_option linter.unusedSimpArgs false
set_option maxRecDepth 100000
set_option maxHeartbeats 4000000
theorem r05_Ints_l1_bok (p0 : List Int) (p1 : List Int) (i1 : Int) : Sim (r05_Ints_l1_b p0 p1 i1) fun x => fgt [0, 1, 5] (evX (evI T) x29_1 [(0, .sl p0.length (p0.flatMap (cint .i64))), (1, .sl p1.length (p1.flatMap (cint .i64))), (5, .int .i64 i1)]) = some (stpK (fun s => (.norm, [(0, .sl p0.length (p0.flatMap (cint .i64))), (1, .sl p1.length (p1.flatMap (cint .i64))), (5, .int .i64 s)])) (fun r => (stpK (fun t0 => (.exit 0, [])) (fun u0 => (.ret, [(4, .bool false)])) r)) x) := by
  unfold r05_Ints_l1_b
  refine sim_if (fun h2 => ?_) (fun h2 => ?_)
  · refine sim_bind (fun x_2 h3 => ?_)
    have f4 := ix_ok h3
    have f4o := ix_own2 h3
    have f5 := ix_cells (sz_int .i64) h3
    simp only [nz] at f5
    refine sim_bind (fun x_3 h6 => ?_)
    have f7 := ix_ok h6
    have f7o := ix_own2 h6
    have f8 := ix_cells (sz_int .i64) h6
    simp only [nz] at f8
    refine sim_if (fun h9 => ?_) (fun h9 => ?_)
    · refine sim_some ?_
      refine' (w_fgt (w_seq (w_seq (w_reg (w_cons ?_ (w_cons ?_ (w_cons ?_ (w_cons ?_ w_nil)))) ?_) (w_go (w_condt ?_ w_skip ?_))) (w_go (w_seq (w_block (w_seq (w_regD ?_ ?_ (w_consD rfl ?_ ?_ ?_ (w_consD rfl ?_ ?_ ?_ (w_consD rfl ?_ ?_ ?_ (w_consD rfl ?_ ?_ ?_ (w_consD rfl ?_ ?_ ?_ (w_consD rfl ?_ ?_ ?_ (w_consD rfl ?_ ?_ ?_ (w_consD rfl ?_ ?_ ?_ (w_barD rfl rfl (w_cons ?_ w_nil)))))))))) ?_) (w_go (w_condt ?_ (w_seq (w_reg (w_cons ?_ w_nil) ?_) (w_go w_ret)) ?_))) ?_) w_gor))) ?_)
      all_goals (first | (simp only [nz, rn, h2, f4, f4o, f5, f7, f7o, f8, h9, Int.reduceLT, Int.reduceEq, List.contains_cons, List.contains_nil, Option.map_some, Option.map_none, reduceIte, reduceCtorEq, Nat.reduceEqDiff, Nat.reduceLT, Nat.reduceBEq, Nat.reduceAdd, Nat.reduceMul, Nat.reduceLeDiff, Nat.reduceSub, Bool.false_eq_true]; try rfl) | skip)
    · refine sim_some ?_
      refine' (w_fgt (w_seq (w_seq (w_reg (w_cons ?_ (w_cons ?_ (w_cons ?_ (w_cons ?_ w_nil)))) ?_) (w_go (w_condt ?_ w_skip ?_))) (w_go (w_seq (w_block (w_seq (w_regD ?_ ?_ (w_consD rfl ?_ ?_ ?_ (w_consD rfl ?_ ?_ ?_ (w_consD rfl ?_ ?_ ?_ (w_consD rfl ?_ ?_ ?_ (w_consD rfl ?_ ?_ ?_ (w_consD rfl ?_ ?_ ?_ (w_consD rfl ?_ ?_ ?_ (w_consD rfl ?_ ?_ ?_ (w_barD rfl rfl (w_cons ?_ w_nil)))))))))) ?_) (w_go (w_condf ?_ w_skip ?_))) ?_) (w_go (w_reg (w_cons ?_ (w_cons ?_ (w_cons ?_ w_nil))) ?_))))) ?_)
      all_goals (first | (simp only [nz, rn, h2, f4, f4o, f5, f7, f7o, f8, h9, Int.reduceLT, Int.reduceEq, List.contains_cons, List.contains_nil, Option.map_some, Option.map_none, reduceIte, reduceCtorEq, Nat.reduceEqDiff, Nat.reduceLT, Nat.reduceBEq, Nat.reduceAdd, Nat.reduceMul, Nat.reduceLeDiff, Nat.reduceSub, Bool.false_eq_true]; try rfl) | skip)
  · refine sim_some ?_
    refine' (w_fgt (w_seq (w_seq (w_reg (w_cons ?_ (w_cons ?_ (w_cons ?_ (w_cons ?_ w_nil)))) ?_) (w_go (w_condf ?_ (w_exit ?_) ?_))) w_gox) ?_)
    all_goals (first | (simp only [nz, rn, h2, Int.reduceLT, Int.reduceEq, List.contains_cons, List.contains_nil, Option.map_some, Option.map_none, reduceIte, reduceCtorEq, Nat.reduceEqDiff, Nat.reduceLT, Nat.reduceBEq, Nat.reduceAdd, Nat.reduceMul, Nat.reduceLeDiff, Nat.reduceSub, Bool.false_eq_true]; try rfl) | skip)
theorem r05_Ints_l1_ok (p0 : List Int) (p1 : List Int) (s : Int) : Sim (r05_Ints_l1 p0 p1 s) fun r => evX (evI T) (.loop x29_1 [0, 1, 5]) [(0, .sl p0.length (p0.flatMap (cint .i64))), (1, .sl p1.length (p1.flatMap (cint .i64))), (5, .int .i64 s)] = some (stpK (fun t0 => (.exit 0, [])) (fun u0 => (.ret, [(4, .bool false)])) r) := by
  unfold r05_Ints_l1
  exact loop_rule (C := evI T) (b := x29_1) (ks := [0, 1, 5]) (σ := Int) (ρ := Stp Unit Unit) (body := fun s => r05_Ints_l1_b p0 p1 s) (E := fun s => [(0, .sl p0.length (p0.flatMap (cint .i64))), (1, .sl p1.length (p1.flatMap (cint .i64))), (5, .int .i64 s)]) (R := fun r => (stpK (fun t0 => (.exit 0, [])) (fun u0 => (.ret, [(4, .bool false)])) r)) (fun r h => by rcases r with _ | _ <;> cases h) (fun s => r05_Ints_l1_bok p0 p1 s) s
theorem r05_Ints_ok (p0 : List Int) (p1 : List Int) : Sim (r05_Ints p0 p1) fun r => evI T 29 [.sl p0.length (p0.flatMap (cint .i64)), .sl p1.length (p1.flatMap (cint .i64))] = some (.bool r, [.none, .none]) := by
  unfold r05_Ints
  refine sim_if (fun h1 => ?_) (fun h1 => ?_)
  · refine sim_some ?_
    refine evI_ret (x := x29) rfl rfl rfl ?_
    refine' (w_fn rfl rfl (w_seq (w_reg (w_cons ?_ w_nil) ?_) (w_go (w_seq (w_seq (w_reg (w_cons ?_ (w_cons ?_ (w_cons ?_ (w_cons ?_ (w_cons ?_ w_nil))))) ?_) (w_go (w_condt ?_ (w_seq (w_reg (w_cons ?_ w_nil) ?_) (w_go w_ret)) ?_))) w_gor))) ?_)
    all_goals (first | (simp only [x29, nz, rn, h1, Int.reduceLT, Int.reduceEq, List.contains_cons, List.contains_nil, Option.map_some, Option.map_none, reduceIte, reduceCtorEq, Nat.reduceEqDiff, Nat.reduceLT, Nat.reduceBEq, Nat.reduceAdd, Nat.reduceMul, Nat.reduceLeDiff, Nat.reduceSub, Bool.false_eq_true]; try rfl) | skip)
  · refine sim_bind (fun qh10 h10 => ?_)
    rcases qh10 with ⟨_⟩ | ⟨_⟩
    · dsimp only
      have f11 := r05_Ints_l1_ok p0 p1 0 _ h10
      dsimp only at f11
      refine sim_some ?_
      refine evI_ret (x := x29) rfl rfl rfl ?_
      try simp only [nz] at f11
      all_goals
        refine' (w_fn rfl rfl (w_seq (w_reg (w_cons ?_ w_nil) ?_) (w_go (w_seq (w_seq (w_reg (w_cons ?_ (w_cons ?_ (w_cons ?_ (w_cons ?_ (w_cons ?_ w_nil))))) ?_) (w_go (w_condf ?_ w_skip ?_))) (w_go (w_seq (w_seq (w_reg (w_cons ?_ w_nil) ?_) (w_go (w_block f11 ?_))) (w_go (w_seq (w_reg (w_cons ?_ w_nil) ?_) (w_go w_ret)))))))) ?_)
        all_goals (first | (simp only [x29, nz, rn, h1, Int.reduceLT, Int.reduceEq, List.contains_cons, List.contains_nil, Option.map_some, Option.map_none, reduceIte, reduceCtorEq, Nat.reduceEqDiff, Nat.reduceLT, Nat.reduceBEq, Nat.reduceAdd, Nat.reduceMul, Nat.reduceLeDiff, Nat.reduceSub, Bool.false_eq_true]; try rfl) | skip)
    · dsimp only
      have f11 := r05_Ints_l1_ok p0 p1 0 _ h10
      dsimp only at f11
      refine sim_some ?_
      refine evI_ret (x := x29) rfl rfl rfl ?_
      try simp only [nz] at f11
      all_goals
        refine' (w_fn rfl rfl (w_seq (w_reg (w_cons ?_ w_nil) ?_) (w_go (w_seq (w_seq (w_reg (w_cons ?_ (w_cons ?_ (w_cons ?_ (w_cons ?_ (w_cons ?_ w_nil))))) ?_) (w_go (w_condf ?_ w_skip ?_))) (w_go (w_seq (w_seq (w_reg (w_cons ?_ w_nil) ?_) (w_go (w_block f11 ?_))) w_gor))))) ?_)
        all_goals (first | (simp only [x29, nz, rn, h1, Int.reduceLT, Int.reduceEq, List.contains_cons, List.contains_nil, Option.map_some, Option.map_none, reduceIte, reduceCtorEq, Nat.reduceEqDiff, Nat.reduceLT, Nat.reduceBEq, Nat.reduceAdd, Nat.reduceMul, Nat.reduceLeDiff, Nat.reduceSub, Bool.false_eq_true]; try rfl) | skip)
theorem r05_Ints_okN (p0 : List Int) (p1 : List Int) : Sim (r05_Ints p0 p1) fun r => ∀ ws, ws.map normA = [.sl p0.length (p0.flatMap (cint .i64)), .sl p1.length (p1.flatMap (cint .i64))] → evI T 29 ws = some (.bool r, [.none, .none]) := fun r h => evI_okN (x := x29) rfl rfl rfl (r05_Ints_ok p0 p1 r h)
end Go.Ab

/-
  Printed by gen.py.
-/
namespace Go.Ab
open Go
set_option linter.unusedVariables false
set_option linter.unusedSimpArgs false
set_option maxRecDepth 100000
set_option maxHeartbeats 4000000
theorem r13_Begins_l1_bok (p0 : List Int) (p1 : List Int) (i1 : Int) : Sim (r13_Begins_l1_b p0 p1 i1) fun x => fgt [0, 1, 5] (evX (evI T) x86_1 [(0, .sl p0.length (p0.flatMap (cint .i64))), (1, .sl p1.length (p1.flatMap (cint .i64))), (5, .int .i64 i1)]) = some (stpK (fun s => (.norm, [(0, .sl p0.length (p0.flatMap (cint .i64))), (1, .sl p1.length (p1.flatMap (cint .i64))), (5, .int .i64 s)])) (fun r => (stpK (fun t0 => (.exit 0, [])) (fun u0 => (.ret, [(4, .bool false)])) r)) x) := by
  unfold r13_Begins_l1_b
  refine sim_if (fun h2 => ?_) (fun h2 => ?_)
  · refine sim_bind (fun x_2 h3 => ?_)
    have f4 := ix_ok h3
    have f4o := ix_own2 h3
    have f5 := ix_cells (sz_int .i64) h3
    simp only [nz] at f5
    refine sim_bind (fun x_3 h6 => ?_)
    have f7 := ix_ok h6
    have f7o := ix_own2 h6
    have f8 := ix_cells (sz_int .i64) h6
    simp only [nz] at f8
    refine sim_if (fun h9 => ?_) (fun h9 => ?_)
    · refine sim_some ?_
      refine' (w_fgt (w_seq (w_seq (w_reg (w_cons ?_ (w_cons ?_ (w_cons ?_ (w_cons ?_ w_nil)))) ?_) (w_go (w_condt ?_ w_skip ?_))) (w_go (w_seq (w_block (w_seq (w_regD ?_ ?_ (w_consD rfl ?_ ?_ ?_ (w_consD rfl ?_ ?_ ?_ (w_consD rfl ?_ ?_ ?_ (w_consD rfl ?_ ?_ ?_ (w_consD rfl ?_ ?_ ?_ (w_consD rfl ?_ ?_ ?_ (w_consD rfl ?_ ?_ ?_ (w_consD rfl ?_ ?_ ?_ (w_barD rfl rfl (w_cons ?_ w_nil)))))))))) ?_) (w_go (w_condt ?_ (w_seq (w_reg (w_cons ?_ w_nil) ?_) (w_go w_ret)) ?_))) ?_) w_gor))) ?_)
      all_goals (first | (simp only [nz, rn, h2, f4, f4o, f5, f7, f7o, f8, h9, Int.reduceLT, Int.reduceEq, List.contains_cons, List.contains_nil, Option.map_some, Option.map_none, reduceIte, reduceCtorEq, Nat.reduceEqDiff, Nat.reduceLT, Nat.reduceBEq, Nat.reduceAdd, Nat.reduceMul, Nat.reduceLeDiff, Nat.reduceSub, Bool.false_eq_true]; try rfl) | skip)
    · refine sim_some ?_
      refine' (w_fgt (w_seq (w_seq (w_reg (w_cons ?_ (w_cons ?_ (w_cons ?_ (w_cons ?_ w_nil)))) ?_) (w_go (w_condt ?_ w_skip ?_))) (w_go (w_seq (w_block (w_seq (w_regD ?_ ?_ (w_consD rfl ?_ ?_ ?_ (w_consD rfl ?_ ?_ ?_ (w_consD rfl ?_ ?_ ?_ (w_consD rfl ?_ ?_ ?_ (w_consD rfl ?_ ?_ ?_ (w_consD rfl ?_ ?_ ?_ (w_consD rfl ?_ ?_ ?_ (w_consD rfl ?_ ?_ ?_ (w_barD rfl rfl (w_cons ?_ w_nil)))))))))) ?_) (w_go (w_condf ?_ w_skip ?_))) ?_) (w_go (w_reg (w_cons ?_ (w_cons ?_ (w_cons ?_ w_nil))) ?_))))) ?_)
      all_goals (first | (simp only [nz, rn, h2, f4, f4o, f5, f7, f7o, f8, h9, Int.reduceLT, Int.reduceEq, List.contains_cons, List.contains_nil, Option.map_some, Option.map_none, reduceIte, reduceCtorEq, Nat.reduceEqDiff, Nat.reduceLT, Nat.reduceBEq, Nat.reduceAdd, Nat.reduceMul, Nat.reduceLeDiff, Nat.reduceSub, Bool.false_eq_true]; try rfl) | skip)
  · refine sim_some ?_
    refine' (w_fgt (w_seq (w_seq (w_reg (w_cons ?_ (w_cons ?_ (w_cons ?_ (w_cons ?_ w_nil)))) ?_) (w_go (w_condf ?_ (w_exit ?_) ?_))) w_gox) ?_)
    all_goals (first | (simp only [nz, rn, h2, Int.reduceLT, Int.reduceEq, List.contains_cons, List.contains_nil, Option.map_some, Option.map_none, reduceIte, reduceCtorEq, Nat.reduceEqDiff, Nat.reduceLT, Nat.reduceBEq, Nat.reduceAdd, Nat.reduceMul, Nat.reduceLeDiff, Nat.reduceSub, Bool.false_eq_true]; try rfl) | skip)
theorem r13_Begins_l1_ok (p0 : List Int) (p1 : List Int) (s : Int) : Sim (r13_Begins_l1 p0 p1 s) fun r => evX (evI T) (.loop x86_1 [0, 1, 5]) [(0, .sl p0.length (p0.flatMap (cint .i64))), (1, .sl p1.length (p1.flatMap (cint .i64))), (5, .int .i64 s)] = some (stpK (fun t0 => (.exit 0, [])) (fun u0 => (.ret, [(4, .bool false)])) r) := by
  unfold r13_Begins_l1
  exact loop_rule (C := evI T) (b := x86_1) (ks := [0, 1, 5]) (σ := Int) (ρ := Stp Unit Unit) (body := fun s => r13_Begins_l1_b p0 p1 s) (E := fun s => [(0, .sl p0.length (p0.flatMap (cint .i64))), (1, .sl p1.length (p1.flatMap (cint .i64))), (5, .int .i64 s)]) (R := fun r => (stpK (fun t0 => (.exit 0, [])) (fun u0 => (.ret, [(4, .bool false)])) r)) (fun r h => by rcases r with _ | _ <;> cases h) (fun s => r13_Begins_l1_bok p0 p1 s) s
theorem r13_Begins_ok (p0 : List Int) (p1 : List Int) : Sim (r13_Begins p0 p1) fun r => evI T 86 [.sl p0.length (p0.flatMap (cint .i64)), .sl p1.length (p1.flatMap (cint .i64))] = some (.bool r, [.none, .none]) := by
  unfold r13_Begins
  refine sim_if (fun h1 => ?_) (fun h1 => ?_)
  · refine sim_some ?_
    refine evI_ret (x := x86) rfl rfl rfl ?_
    refine' (w_fn rfl rfl (w_seq (w_reg (w_cons ?_ w_nil) ?_) (w_go (w_seq (w_seq (w_reg (w_cons ?_ (w_cons ?_ (w_cons ?_ (w_cons ?_ (w_cons ?_ w_nil))))) ?_) (w_go (w_condt ?_ (w_seq (w_reg (w_cons ?_ w_nil) ?_) (w_go w_ret)) ?_))) w_gor))) ?_)
    all_goals (first | (simp only [x86, nz, rn, h1, Int.reduceLT, Int.reduceEq, List.contains_cons, List.contains_nil, Option.map_some, Option.map_none, reduceIte, reduceCtorEq, Nat.reduceEqDiff, Nat.reduceLT, Nat.reduceBEq, Nat.reduceAdd, Nat.reduceMul, Nat.reduceLeDiff, Nat.reduceSub, Bool.false_eq_true]; try rfl) | skip)
  · refine sim_bind (fun qh10 h10 => ?_)
    rcases qh10 with ⟨_⟩ | ⟨_⟩
    · dsimp only
      have f11 := r13_Begins_l1_ok p0 p1 0 _ h10
      dsimp only at f11
      refine sim_some ?_
      refine evI_ret (x := x86) rfl rfl rfl ?_
      try simp only [nz] at f11
      all_goals
        refine' (w_fn rfl rfl (w_seq (w_reg (w_cons ?_ w_nil) ?_) (w_go (w_seq (w_seq (w_reg (w_cons ?_ (w_cons ?_ (w_cons ?_ (w_cons ?_ (w_cons ?_ w_nil))))) ?_) (w_go (w_condf ?_ w_skip ?_))) (w_go (w_seq (w_seq (w_reg (w_cons ?_ w_nil) ?_) (w_go (w_block f11 ?_))) (w_go (w_seq (w_reg (w_cons ?_ w_nil) ?_) (w_go w_ret)))))))) ?_)
        all_goals (first | (simp only [x86, nz, rn, h1, Int.reduceLT, Int.reduceEq, List.contains_cons, List.contains_nil, Option.map_some, Option.map_none, reduceIte, reduceCtorEq, Nat.reduceEqDiff, Nat.reduceLT, Nat.reduceBEq, Nat.reduceAdd, Nat.reduceMul, Nat.reduceLeDiff, Nat.reduceSub, Bool.false_eq_true]; try rfl) | skip)
    · dsimp only
      have f11 := r13_Begins_l1_ok p0 p1 0 _ h10
      dsimp only at f11
      refine sim_some ?_
      refine evI_ret (x := x86) rfl rfl rfl ?_
      try simp only [nz] at f11
      all_goals
        refine' (w_fn rfl rfl (w_seq (w_reg (w_cons ?_ w_nil) ?_) (w_go (w_seq (w_seq (w_reg (w_cons ?_ (w_cons ?_ (w_cons ?_ (w_cons ?_ (w_cons ?_ w_nil))))) ?_) (w_go (w_condf ?_ w_skip ?_))) (w_go (w_seq (w_seq (w_reg (w_cons ?_ w_nil) ?_) (w_go (w_block f11 ?_))) w_gor))))) ?_)
        all_goals (first | (simp only [x86, nz, rn, h1, Int.reduceLT, Int.reduceEq, List.contains_cons, List.contains_nil, Option.map_some, Option.map_none, reduceIte, reduceCtorEq, Nat.reduceEqDiff, Nat.reduceLT, Nat.reduceBEq, Nat.reduceAdd, Nat.reduceMul, Nat.reduceLeDiff, Nat.reduceSub, Bool.false_eq_true]; try rfl) | skip)
theorem r13_Begins_okN (p0 : List Int) (p1 : List Int) : Sim (r13_Begins p0 p1) fun r => ∀ ws, ws.map normA = [.sl p0.length (p0.flatMap (cint .i64)), .sl p1.length (p1.flatMap (cint .i64))] → evI T 86 ws = some (.bool r, [.none, .none]) := fun r h => evI_okN (x := x86) rfl rfl rfl (r13_Begins_ok p0 p1 r h)
end Go.Ab

/-
  Printed by gen.py.
-/
namespace Go.Ab
open Go
set_option linter.unusedVariables false
set_option linter.unusedSimpArgs false
set_option maxRecDepth 100000
set_option maxHeartbeats 4000000
theorem r13_Nums_j1_ok (p0 : List Int) (p1 : List Int) : Sim (r13_Nums_j1 p0 p1) fun r => evX (evI T) x32_1 [(0, .sl p0.length (p0.flatMap (cint .i64))), (1, .sl p1.length (p1.flatMap (cint .i64)))] = some (.norm, [(4, .bool r)]) := by
  unfold r13_Nums_j1
  refine sim_if (fun h1 => ?_) (fun h1 => ?_)
  · refine sim_bind (fun r1 h2 => ?_)
    have f3 := r13_Begins_okN p0 p1 _ h2
    dsimp only at f3
    refine sim_some ?_
    try simp only [nz] at f3
    all_goals
      refine' (w_reg (w_cons ?_ (w_cons ?_ (w_cons ?_ (w_cons ?_ (w_cons ?_ (w_cons ?_ (w_cons ?_ (w_cons ?_ (w_cons ?_ (w_cons ?_ (w_cons ?_ w_nil))))))))))) ?_)
      all_goals (first | (simp only [nz, rn, h1, f3, Int.reduceLT, Int.reduceEq, List.contains_cons, List.contains_nil, Option.map_some, Option.map_none, reduceIte, reduceCtorEq, Nat.reduceEqDiff, Nat.reduceLT, Nat.reduceBEq, Nat.reduceAdd, Nat.reduceMul, Nat.reduceLeDiff, Nat.reduceSub, Bool.false_eq_true]; try rfl) | skip)
  · refine sim_some ?_
    refine' (w_reg (w_cons ?_ (w_cons ?_ (w_cons ?_ (w_cons ?_ (w_cons ?_ (w_cons ?_ (w_cons ?_ (w_cons ?_ (w_cons ?_ (w_cons ?_ (w_cons ?_ w_nil))))))))))) ?_)
    all_goals (first | (simp only [nz, rn, h1, Int.reduceLT, Int.reduceEq, List.contains_cons, List.contains_nil, Option.map_some, Option.map_none, reduceIte, reduceCtorEq, Nat.reduceEqDiff, Nat.reduceLT, Nat.reduceBEq, Nat.reduceAdd, Nat.reduceMul, Nat.reduceLeDiff, Nat.reduceSub, Bool.false_eq_true]; try rfl) | skip)
theorem r13_Nums_ok (p0 : List Int) (p1 : List Int) : Sim (r13_Nums p0 p1) fun r => evI T 32 [.sl p0.length (p0.flatMap (cint .i64)), .sl p1.length (p1.flatMap (cint .i64))] = some (.bool r, [.none, .none]) := by
  unfold r13_Nums
  refine sim_bind (fun v2 h4 => ?_)
  have f5 := r13_Nums_j1_ok p0 p1 _ h4
  dsimp only at f5
  refine sim_some ?_
  refine evI_ret (x := x32) rfl rfl rfl ?_
  try simp only [nz] at f5
  all_goals
    refine' (w_fn rfl rfl (w_seq (w_reg (w_cons ?_ w_nil) ?_) (w_go (w_seq f5 (w_go w_ret)))) ?_)
    all_goals (first | (simp only [x32, nz, rn, Int.reduceLT, Int.reduceEq, List.contains_cons, List.contains_nil, Option.map_some, Option.map_none, reduceIte, reduceCtorEq, Nat.reduceEqDiff, Nat.reduceLT, Nat.reduceBEq, Nat.reduceAdd, Nat.reduceMul, Nat.reduceLeDiff, Nat.reduceSub, Bool.false_eq_true]; try rfl) | skip)
theorem r13_Nums_okN (p0 : List Int) (p1 : List Int) : Sim (r13_Nums p0 p1) fun r => ∀ ws, ws.map normA = [.sl p0.length (p0.flatMap (cint .i64)), .sl p1.length (p1.flatMap (cint .i64))] → evI T 32 ws = some (.bool r, [.none, .none]) := fun r h => evI_okN (x := x32) rfl rfl rfl (r13_Nums_ok p0 p1 r h)
end Go.Ab

/-
  Printed by gen.py.
-/
namespace Go.Ab
open Go
set_option linter.unusedVariables false
set_option linter.unusedSimpArgs false
set_option maxRecDepth 100000
set_option maxHeartbeats 4000000
theorem r28_Same_j1_ok (p0 : Form) (p1 : Form) : Sim (r28_Same_j1 p0 p1) fun r => evX (evI T) x40_1 [(2, .box [.sl p0.Roots.length (p0.Roots.flatMap (cint .i64)), .sl p0.Shapes.length (p0.Shapes.flatMap cShape), .sl p0.Slots.length (p0.Slots.flatMap (csl (cint .i64)))]), (3, .box [.sl p1.Roots.length (p1.Roots.flatMap (cint .i64)), .sl p1.Shapes.length (p1.Shapes.flatMap cShape), .sl p1.Slots.length (p1.Slots.flatMap (csl (cint .i64)))])] = some (.norm, [(2, .box [.sl p0.Roots.length (p0.Roots.flatMap (cint .i64)), .sl p0.Shapes.length (p0.Shapes.flatMap cShape), .sl p0.Slots.length (p0.Slots.flatMap (csl (cint .i64)))]), (3, .box [.sl p1.Roots.length (p1.Roots.flatMap (cint .i64)), .sl p1.Shapes.length (p1.Shapes.flatMap cShape), .sl p1.Slots.length (p1.Slots.flatMap (csl (cint .i64)))]), (30, .bool r)]) := by
  unfold r28_Same_j1
  refine sim_bind (fun r1 h1 => ?_)
  have f2 := r05_Ints_okN p0.Roots p1.Roots _ h1
  dsimp only at f2
  refine sim_if (fun h3 => ?_) (fun h3 => ?_)
  · refine sim_some ?_
    try simp only [nz, nzShape, nzForm] at f2
    all_goals
      refine' (w_reg (w_cons ?_ (w_cons ?_ (w_cons ?_ (w_cons ?_ (w_cons ?_ (w_cons ?_ (w_cons ?_ (w_cons ?_ (w_cons ?_ (w_cons ?_ (w_cons ?_ (w_cons ?_ (w_cons ?_ (w_cons ?_ (w_cons ?_ (w_cons ?_ (w_cons ?_ (w_cons ?_ (w_cons ?_ (w_cons ?_ (w_cons ?_ (w_cons ?_ (w_cons ?_ (w_cons ?_ w_nil)))))))))))))))))))))))) ?_)
      all_goals (first | (simp only [nz, rn, nzShape, nzForm, f2, h3, Int.reduceLT, Int.reduceEq, List.contains_cons, List.contains_nil, Option.map_some, Option.map_none, reduceIte, reduceCtorEq, Nat.reduceEqDiff, Nat.reduceLT, Nat.reduceBEq, Nat.reduceAdd, Nat.reduceMul, Nat.reduceLeDiff, Nat.reduceSub, Bool.false_eq_true]; try rfl) | skip)
  · refine sim_if (fun h4 => ?_) (fun h4 => ?_)
    · refine sim_some ?_
      try simp only [nz, nzShape, nzForm] at f2
      all_goals
        refine' (w_reg (w_cons ?_ (w_cons ?_ (w_cons ?_ (w_cons ?_ (w_cons ?_ (w_cons ?_ (w_cons ?_ (w_cons ?_ (w_cons ?_ (w_cons ?_ (w_cons ?_ (w_cons ?_ (w_cons ?_ (w_cons ?_ (w_cons ?_ (w_cons ?_ (w_cons ?_ (w_cons ?_ (w_cons ?_ (w_cons ?_ (w_cons ?_ (w_cons ?_ (w_cons ?_ (w_cons ?_ w_nil)))))))))))))))))))))))) ?_)
        all_goals (first | (simp only [nz, rn, nzShape, nzForm, f2, h3, h4, Int.reduceLT, Int.reduceEq, List.contains_cons, List.contains_nil, Option.map_some, Option.map_none, reduceIte, reduceCtorEq, Nat.reduceEqDiff, Nat.reduceLT, Nat.reduceBEq, Nat.reduceAdd, Nat.reduceMul, Nat.reduceLeDiff, Nat.reduceSub, Bool.false_eq_true]; try rfl) | skip)
    · refine sim_some ?_
      try simp only [nz, nzShape, nzForm] at f2
      all_goals
        refine' (w_reg (w_cons ?_ (w_cons ?_ (w_cons ?_ (w_cons ?_ (w_cons ?_ (w_cons ?_ (w_cons ?_ (w_cons ?_ (w_cons ?_ (w_cons ?_ (w_cons ?_ (w_cons ?_ (w_cons ?_ (w_cons ?_ (w_cons ?_ (w_cons ?_ (w_cons ?_ (w_cons ?_ (w_cons ?_ (w_cons ?_ (w_cons ?_ (w_cons ?_ (w_cons ?_ (w_cons ?_ w_nil)))))))))))))))))))))))) ?_)
        all_goals (first | (simp only [nz, rn, nzShape, nzForm, f2, h3, h4, Int.reduceLT, Int.reduceEq, List.contains_cons, List.contains_nil, Option.map_some, Option.map_none, reduceIte, reduceCtorEq, Nat.reduceEqDiff, Nat.reduceLT, Nat.reduceBEq, Nat.reduceAdd, Nat.reduceMul, Nat.reduceLeDiff, Nat.reduceSub, Bool.false_eq_true]; try rfl) | skip)
theorem r28_Same_l2_bok (p0 : Form) (p1 : Form) (v3 : Int) : Sim (r28_Same_l2_b p0 p1 v3) fun x => fgt [2, 3, 5] (evX (evI T) x40_2 [(2, .box [.sl p0.Roots.length (p0.Roots.flatMap (cint .i64)), .sl p0.Shapes.length (p0.Shapes.flatMap cShape), .sl p0.Slots.length (p0.Slots.flatMap (csl (cint .i64)))]), (3, .box [.sl p1.Roots.length (p1.Roots.flatMap (cint .i64)), .sl p1.Shapes.length (p1.Shapes.flatMap cShape), .sl p1.Slots.length (p1.Slots.flatMap (csl (cint .i64)))]), (5, .int .i64 v3)]) = some (stpK (fun s => (.norm, [(2, .box [.sl p0.Roots.length (p0.Roots.flatMap (cint .i64)), .sl p0.Shapes.length (p0.Shapes.flatMap cShape), .sl p0.Slots.length (p0.Slots.flatMap (csl (cint .i64)))]), (3, .box [.sl p1.Roots.length (p1.Roots.flatMap (cint .i64)), .sl p1.Shapes.length (p1.Shapes.flatMap cShape), .sl p1.Slots.length (p1.Slots.flatMap (csl (cint .i64)))]), (5, .int .i64 s)])) (fun r => (stpK (fun t0 => (.exit 0, [(2, .box [.sl p0.Roots.length (p0.Roots.flatMap (cint .i64)), .sl p0.Shapes.length (p0.Shapes.flatMap cShape), .sl p0.Slots.length (p0.Slots.flatMap (csl (cint .i64)))]), (3, .box [.sl p1.Roots.length (p1.Roots.flatMap (cint .i64)), .sl p1.Shapes.length (p1.Shapes.flatMap cShape), .sl p1.Slots.length (p1.Slots.flatMap (csl (cint .i64)))])])) (fun u0 => (.ret, [(4, .bool false)])) r)) x) := by
  unfold r28_Same_l2_b
  refine sim_if (fun h8 => ?_) (fun h8 => ?_)
  · refine sim_bind (fun x_4 h9 => ?_)
    have f10 := ix_ok h9
    have f10o := ix_own2 h9
    have f11 := ix_cells szShape h9
    simp only [nz, nzShape, nzForm] at f11
    refine sim_bind (fun x_5 h12 => ?_)
    have f13 := ix_ok h12
    have f13o := ix_own2 h12
    have f14 := ix_cells szShape h12
    simp only [nz, nzShape, nzForm] at f14
    refine sim_if (fun h15 => ?_) (fun h15 => ?_)
    · refine sim_some ?_
      refine' (w_fgt (w_seq (w_seq (w_reg (w_cons ?_ (w_cons ?_ (w_cons ?_ (w_cons ?_ (w_cons ?_ w_nil))))) ?_) (w_go (w_condt ?_ w_skip ?_))) (w_go (w_seq (w_block (w_seq (w_regD ?_ ?_ (w_consD rfl ?_ ?_ ?_ (w_consD rfl ?_ ?_ ?_ (w_consD rfl ?_ ?_ ?_ (w_consD rfl ?_ ?_ ?_ (w_consD rfl ?_ ?_ ?_ (w_consD rfl ?_ ?_ ?_ (w_consD rfl ?_ ?_ ?_ (w_consD rfl ?_ ?_ ?_ (w_consD rfl ?_ ?_ ?_ (w_consD rfl ?_ ?_ ?_ (w_barD rfl rfl (w_cons ?_ w_nil)))))))))))) ?_) (w_go (w_condt ?_ (w_seq (w_reg (w_cons ?_ w_nil) ?_) (w_go w_ret)) ?_))) ?_) w_gor))) ?_)
      all_goals (first | (simp only [nz, rn, nzShape, nzForm, h8, f10, f10o, f11, f13, f13o, f14, h15, Int.reduceLT, Int.reduceEq, List.contains_cons, List.contains_nil, Option.map_some, Option.map_none, reduceIte, reduceCtorEq, Nat.reduceEqDiff, Nat.reduceLT, Nat.reduceBEq, Nat.reduceAdd, Nat.reduceMul, Nat.reduceLeDiff, Nat.reduceSub, Bool.false_eq_true]; try rfl) | skip)
    · refine sim_some ?_
      refine' (w_fgt (w_seq (w_seq (w_reg (w_cons ?_ (w_cons ?_ (w_cons ?_ (w_cons ?_ (w_cons ?_ w_nil))))) ?_) (w_go (w_condt ?_ w_skip ?_))) (w_go (w_seq (w_block (w_seq (w_regD ?_ ?_ (w_consD rfl ?_ ?_ ?_ (w_consD rfl ?_ ?_ ?_ (w_consD rfl ?_ ?_ ?_ (w_consD rfl ?_ ?_ ?_ (w_consD rfl ?_ ?_ ?_ (w_consD rfl ?_ ?_ ?_ (w_consD rfl ?_ ?_ ?_ (w_consD rfl ?_ ?_ ?_ (w_consD rfl ?_ ?_ ?_ (w_consD rfl ?_ ?_ ?_ (w_barD rfl rfl (w_cons ?_ w_nil)))))))))))) ?_) (w_go (w_condf ?_ w_skip ?_))) ?_) (w_go (w_reg (w_cons ?_ (w_cons ?_ (w_cons ?_ w_nil))) ?_))))) ?_)
      all_goals (first | (simp only [nz, rn, nzShape, nzForm, h8, f10, f10o, f11, f13, f13o, f14, h15, Int.reduceLT, Int.reduceEq, List.contains_cons, List.contains_nil, Option.map_some, Option.map_none, reduceIte, reduceCtorEq, Nat.reduceEqDiff, Nat.reduceLT, Nat.reduceBEq, Nat.reduceAdd, Nat.reduceMul, Nat.reduceLeDiff, Nat.reduceSub, Bool.false_eq_true]; try rfl) | skip)
  · refine sim_some ?_
    refine' (w_fgt (w_seq (w_seq (w_reg (w_cons ?_ (w_cons ?_ (w_cons ?_ (w_cons ?_ (w_cons ?_ w_nil))))) ?_) (w_go (w_condf ?_ (w_exit ?_) ?_))) w_gox) ?_)
    all_goals (first | (simp only [nz, rn, nzShape, nzForm, h8, Int.reduceLT, Int.reduceEq, List.contains_cons, List.contains_nil, Option.map_some, Option.map_none, reduceIte, reduceCtorEq, Nat.reduceEqDiff, Nat.reduceLT, Nat.reduceBEq, Nat.reduceAdd, Nat.reduceMul, Nat.reduceLeDiff, Nat.reduceSub, Bool.false_eq_true]; try rfl) | skip)
theorem r28_Same_l2_ok (p0 : Form) (p1 : Form) (s : Int) : Sim (r28_Same_l2 p0 p1 s) fun r => evX (evI T) (.loop x40_2 [2, 3, 5]) [(2, .box [.sl p0.Roots.length (p0.Roots.flatMap (cint .i64)), .sl p0.Shapes.length (p0.Shapes.flatMap cShape), .sl p0.Slots.length (p0.Slots.flatMap (csl (cint .i64)))]), (3, .box [.sl p1.Roots.length (p1.Roots.flatMap (cint .i64)), .sl p1.Shapes.length (p1.Shapes.flatMap cShape), .sl p1.Slots.length (p1.Slots.flatMap (csl (cint .i64)))]), (5, .int .i64 s)] = some (stpK (fun t0 => (.exit 0, [(2, .box [.sl p0.Roots.length (p0.Roots.flatMap (cint .i64)), .sl p0.Shapes.length (p0.Shapes.flatMap cShape), .sl p0.Slots.length (p0.Slots.flatMap (csl (cint .i64)))]), (3, .box [.sl p1.Roots.length (p1.Roots.flatMap (cint .i64)), .sl p1.Shapes.length (p1.Shapes.flatMap cShape), .sl p1.Slots.length (p1.Slots.flatMap (csl (cint .i64)))])])) (fun u0 => (.ret, [(4, .bool false)])) r) := by
  unfold r28_Same_l2
  exact loop_rule (C := evI T) (b := x40_2) (ks := [2, 3, 5]) (σ := Int) (ρ := Stp Unit Unit) (body := fun s => r28_Same_l2_b p0 p1 s) (E := fun s => [(2, .box [.sl p0.Roots.length (p0.Roots.flatMap (cint .i64)), .sl p0.Shapes.length (p0.Shapes.flatMap cShape), .sl p0.Slots.length (p0.Slots.flatMap (csl (cint .i64)))]), (3, .box [.sl p1.Roots.length (p1.Roots.flatMap (cint .i64)), .sl p1.Shapes.length (p1.Shapes.flatMap cShape), .sl p1.Slots.length (p1.Slots.flatMap (csl (cint .i64)))]), (5, .int .i64 s)]) (R := fun r => (stpK (fun t0 => (.exit 0, [(2, .box [.sl p0.Roots.length (p0.Roots.flatMap (cint .i64)), .sl p0.Shapes.length (p0.Shapes.flatMap cShape), .sl p0.Slots.length (p0.Slots.flatMap (csl (cint .i64)))]), (3, .box [.sl p1.Roots.length (p1.Roots.flatMap (cint .i64)), .sl p1.Shapes.length (p1.Shapes.flatMap cShape), .sl p1.Slots.length (p1.Slots.flatMap (csl (cint .i64)))])])) (fun u0 => (.ret, [(4, .bool false)])) r)) (fun r h => by rcases r with _ | _ <;> cases h) (fun s => r28_Same_l2_bok p0 p1 s) s
theorem r28_Same_l3_bok (p0 : Form) (p1 : Form) (v6 : Int) : Sim (r28_Same_l3_b p0 p1 v6) fun x => fgt [2, 3, 6] (evX (evI T) x40_3 [(2, .box [.sl p0.Roots.length (p0.Roots.flatMap (cint .i64)), .sl p0.Shapes.length (p0.Shapes.flatMap cShape), .sl p0.Slots.length (p0.Slots.flatMap (csl (cint .i64)))]), (3, .box [.sl p1.Roots.length (p1.Roots.flatMap (cint .i64)), .sl p1.Shapes.length (p1.Shapes.flatMap cShape), .sl p1.Slots.length (p1.Slots.flatMap (csl (cint .i64)))]), (6, .int .i64 v6)]) = some (stpK (fun s => (.norm, [(2, .box [.sl p0.Roots.length (p0.Roots.flatMap (cint .i64)), .sl p0.Shapes.length (p0.Shapes.flatMap cShape), .sl p0.Slots.length (p0.Slots.flatMap (csl (cint .i64)))]), (3, .box [.sl p1.Roots.length (p1.Roots.flatMap (cint .i64)), .sl p1.Shapes.length (p1.Shapes.flatMap cShape), .sl p1.Slots.length (p1.Slots.flatMap (csl (cint .i64)))]), (6, .int .i64 s)])) (fun r => (stpK (fun t0 => (.exit 2, [])) (fun u0 => (.ret, [(4, .bool false)])) r)) x) := by
  unfold r28_Same_l3_b
  refine sim_if (fun h18 => ?_) (fun h18 => ?_)
  · refine sim_bind (fun x_7 h19 => ?_)
    have f20 := ix_ok h19
    have f20o := ix_own2 h19
    have f21 := ix_cells (sz_sl (cint .i64)) h19
    simp only [nz, nzShape, nzForm] at f21
    refine sim_bind (fun x_8 h22 => ?_)
    have f23 := ix_ok h22
    have f23o := ix_own2 h22
    have f24 := ix_cells (sz_sl (cint .i64)) h22
    simp only [nz, nzShape, nzForm] at f24
    refine sim_bind (fun r9 h25 => ?_)
    have f26 := r13_Nums_okN x_7 x_8 _ h25
    dsimp only at f26
    refine sim_if (fun h27 => ?_) (fun h27 => ?_)
    · refine sim_some ?_
      try simp only [nz, nzShape, nzForm] at f26
      all_goals
        refine' (w_fgt (w_seq (w_seq (w_reg (w_cons ?_ (w_cons ?_ (w_cons ?_ (w_cons ?_ (w_cons ?_ w_nil))))) ?_) (w_go (w_condt ?_ w_skip ?_))) (w_go (w_seq (w_block (w_seq (w_regD ?_ ?_ (w_consD rfl ?_ ?_ ?_ (w_consD rfl ?_ ?_ ?_ (w_consD rfl ?_ ?_ ?_ (w_consD rfl ?_ ?_ ?_ (w_consD rfl ?_ ?_ ?_ (w_consD rfl ?_ ?_ ?_ (w_consD rfl ?_ ?_ ?_ (w_consD rfl ?_ ?_ ?_ (w_consD rfl ?_ ?_ ?_ (w_consD rfl ?_ ?_ ?_ (w_barD rfl rfl (w_cons ?_ (w_cons ?_ w_nil))))))))))))) ?_) (w_go (w_condt ?_ (w_seq (w_reg (w_cons ?_ w_nil) ?_) (w_go w_ret)) ?_))) ?_) w_gor))) ?_)
        all_goals (first | (simp only [nz, rn, nzShape, nzForm, h18, f20, f20o, f21, f23, f23o, f24, f26, h27, Int.reduceLT, Int.reduceEq, List.contains_cons, List.contains_nil, Option.map_some, Option.map_none, reduceIte, reduceCtorEq, Nat.reduceEqDiff, Nat.reduceLT, Nat.reduceBEq, Nat.reduceAdd, Nat.reduceMul, Nat.reduceLeDiff, Nat.reduceSub, Bool.false_eq_true]; try rfl) | skip)
    · refine sim_some ?_
      try simp only [nz, nzShape, nzForm] at f26
      all_goals
        refine' (w_fgt (w_seq (w_seq (w_reg (w_cons ?_ (w_cons ?_ (w_cons ?_ (w_cons ?_ (w_cons ?_ w_nil))))) ?_) (w_go (w_condt ?_ w_skip ?_))) (w_go (w_seq (w_block (w_seq (w_regD ?_ ?_ (w_consD rfl ?_ ?_ ?_ (w_consD rfl ?_ ?_ ?_ (w_consD rfl ?_ ?_ ?_ (w_consD rfl ?_ ?_ ?_ (w_consD rfl ?_ ?_ ?_ (w_consD rfl ?_ ?_ ?_ (w_consD rfl ?_ ?_ ?_ (w_consD rfl ?_ ?_ ?_ (w_consD rfl ?_ ?_ ?_ (w_consD rfl ?_ ?_ ?_ (w_barD rfl rfl (w_cons ?_ (w_cons ?_ w_nil))))))))))))) ?_) (w_go (w_condf ?_ w_skip ?_))) ?_) (w_go (w_reg (w_cons ?_ (w_cons ?_ (w_cons ?_ w_nil))) ?_))))) ?_)
        all_goals (first | (simp only [nz, rn, nzShape, nzForm, h18, f20, f20o, f21, f23, f23o, f24, f26, h27, Int.reduceLT, Int.reduceEq, List.contains_cons, List.contains_nil, Option.map_some, Option.map_none, reduceIte, reduceCtorEq, Nat.reduceEqDiff, Nat.reduceLT, Nat.reduceBEq, Nat.reduceAdd, Nat.reduceMul, Nat.reduceLeDiff, Nat.reduceSub, Bool.false_eq_true]; try rfl) | skip)
  · refine sim_some ?_
    refine' (w_fgt (w_seq (w_seq (w_reg (w_cons ?_ (w_cons ?_ (w_cons ?_ (w_cons ?_ (w_cons ?_ w_nil))))) ?_) (w_go (w_condf ?_ (w_exit ?_) ?_))) w_gox) ?_)
    all_goals (first | (simp only [nz, rn, nzShape, nzForm, h18, Int.reduceLT, Int.reduceEq, List.contains_cons, List.contains_nil, Option.map_some, Option.map_none, reduceIte, reduceCtorEq, Nat.reduceEqDiff, Nat.reduceLT, Nat.reduceBEq, Nat.reduceAdd, Nat.reduceMul, Nat.reduceLeDiff, Nat.reduceSub, Bool.false_eq_true]; try rfl) | skip)
theorem r28_Same_l3_ok (p0 : Form) (p1 : Form) (s : Int) : Sim (r28_Same_l3 p0 p1 s) fun r => evX (evI T) (.loop x40_3 [2, 3, 6]) [(2, .box [.sl p0.Roots.length (p0.Roots.flatMap (cint .i64)), .sl p0.Shapes.length (p0.Shapes.flatMap cShape), .sl p0.Slots.length (p0.Slots.flatMap (csl (cint .i64)))]), (3, .box [.sl p1.Roots.length (p1.Roots.flatMap (cint .i64)), .sl p1.Shapes.length (p1.Shapes.flatMap cShape), .sl p1.Slots.length (p1.Slots.flatMap (csl (cint .i64)))]), (6, .int .i64 s)] = some (stpK (fun t0 => (.exit 2, [])) (fun u0 => (.ret, [(4, .bool false)])) r) := by
  unfold r28_Same_l3
  exact loop_rule (C := evI T) (b := x40_3) (ks := [2, 3, 6]) (σ := Int) (ρ := Stp Unit Unit) (body := fun s => r28_Same_l3_b p0 p1 s) (E := fun s => [(2, .box [.sl p0.Roots.length (p0.Roots.flatMap (cint .i64)), .sl p0.Shapes.length (p0.Shapes.flatMap cShape), .sl p0.Slots.length (p0.Slots.flatMap (csl (cint .i64)))]), (3, .box [.sl p1.Roots.length (p1.Roots.flatMap (cint .i64)), .sl p1.Shapes.length (p1.Shapes.flatMap cShape), .sl p1.Slots.length (p1.Slots.flatMap (csl (cint .i64)))]), (6, .int .i64 s)]) (R := fun r => (stpK (fun t0 => (.exit 2, [])) (fun u0 => (.ret, [(4, .bool false)])) r)) (fun r h => by rcases r with _ | _ <;> cases h) (fun s => r28_Same_l3_bok p0 p1 s) s
theorem r28_Same_ok (p0 : Form) (p1 : Form) : Sim (r28_Same p0 p1) fun r => evI T 40 [.agg [.sl p0.Roots.length (p0.Roots.flatMap (cint .i64)), .sl p0.Shapes.length (p0.Shapes.flatMap cShape), .sl p0.Slots.length (p0.Slots.flatMap (csl (cint .i64)))], .agg [.sl p1.Roots.length (p1.Roots.flatMap (cint .i64)), .sl p1.Shapes.length (p1.Shapes.flatMap cShape), .sl p1.Slots.length (p1.Slots.flatMap (csl (cint .i64)))]] = some (.bool r, [.none, .none]) := by
  unfold r28_Same
  refine sim_bind (fun v2 h5 => ?_)
  have f6 := r28_Same_j1_ok p0 p1 _ h5
  dsimp only at f6
  refine sim_if (fun h7 => ?_) (fun h7 => ?_)
  · refine sim_some ?_
    refine evI_ret (x := x40) rfl rfl rfl ?_
    try simp only [nz, nzShape, nzForm] at f6
    all_goals
      refine' (w_fn rfl rfl (w_seq (w_reg (w_cons ?_ (w_cons ?_ (w_cons ?_ w_nil))) ?_) (w_go (w_seq (w_seq f6 (w_go (w_condt ?_ (w_seq (w_reg (w_cons ?_ w_nil) ?_) (w_go w_ret)) ?_))) w_gor))) ?_)
      all_goals (first | (simp only [x40, nz, rn, nzShape, nzForm, h7, Int.reduceLT, Int.reduceEq, List.contains_cons, List.contains_nil, Option.map_some, Option.map_none, reduceIte, reduceCtorEq, Nat.reduceEqDiff, Nat.reduceLT, Nat.reduceBEq, Nat.reduceAdd, Nat.reduceMul, Nat.reduceLeDiff, Nat.reduceSub, Bool.false_eq_true]; try rfl) | skip)
  · refine sim_bind (fun qh16 h16 => ?_)
    rcases qh16 with ⟨_⟩ | ⟨_⟩
    · dsimp only
      have f17 := r28_Same_l2_ok p0 p1 0 _ h16
      dsimp only at f17
      refine sim_bind (fun qh28 h28 => ?_)
      rcases qh28 with ⟨_⟩ | ⟨_⟩
      · dsimp only
        have f29 := r28_Same_l3_ok p0 p1 0 _ h28
        dsimp only at f29
        refine sim_some ?_
        refine evI_ret (x := x40) rfl rfl rfl ?_
        try simp only [nz, nzShape, nzForm] at f6
        try simp only [nz, nzShape, nzForm] at f17
        try simp only [nz, nzShape, nzForm] at f29
        all_goals
          refine' (w_fn rfl rfl (w_seq (w_reg (w_cons ?_ (w_cons ?_ (w_cons ?_ w_nil))) ?_) (w_go (w_seq (w_seq f6 (w_go (w_condf ?_ w_skip ?_))) (w_go (w_seq (w_seq (w_reg (w_cons ?_ w_nil) ?_) (w_go (w_block f17 ?_))) (w_go (w_seq (w_seq (w_reg (w_cons ?_ w_nil) ?_) (w_go (w_block f29 ?_))) (w_go (w_seq (w_reg (w_cons ?_ w_nil) ?_) (w_go w_ret)))))))))) ?_)
          all_goals (first | (simp only [x40, nz, rn, nzShape, nzForm, h7, Int.reduceLT, Int.reduceEq, List.contains_cons, List.contains_nil, Option.map_some, Option.map_none, reduceIte, reduceCtorEq, Nat.reduceEqDiff, Nat.reduceLT, Nat.reduceBEq, Nat.reduceAdd, Nat.reduceMul, Nat.reduceLeDiff, Nat.reduceSub, Bool.false_eq_true]; try rfl) | skip)
      · dsimp only
        have f29 := r28_Same_l3_ok p0 p1 0 _ h28
        dsimp only at f29
        refine sim_some ?_
        refine evI_ret (x := x40) rfl rfl rfl ?_
        try simp only [nz, nzShape, nzForm] at f6
        try simp only [nz, nzShape, nzForm] at f17
        try simp only [nz, nzShape, nzForm] at f29
        all_goals
          refine' (w_fn rfl rfl (w_seq (w_reg (w_cons ?_ (w_cons ?_ (w_cons ?_ w_nil))) ?_) (w_go (w_seq (w_seq f6 (w_go (w_condf ?_ w_skip ?_))) (w_go (w_seq (w_seq (w_reg (w_cons ?_ w_nil) ?_) (w_go (w_block f17 ?_))) (w_go (w_seq (w_seq (w_reg (w_cons ?_ w_nil) ?_) (w_go (w_block f29 ?_))) w_gor))))))) ?_)
          all_goals (first | (simp only [x40, nz, rn, nzShape, nzForm, h7, Int.reduceLT, Int.reduceEq, List.contains_cons, List.contains_nil, Option.map_some, Option.map_none, reduceIte, reduceCtorEq, Nat.reduceEqDiff, Nat.reduceLT, Nat.reduceBEq, Nat.reduceAdd, Nat.reduceMul, Nat.reduceLeDiff, Nat.reduceSub, Bool.false_eq_true]; try rfl) | skip)
    · dsimp only
      have f17 := r28_Same_l2_ok p0 p1 0 _ h16
      dsimp only at f17
      refine sim_some ?_
      refine evI_ret (x := x40) rfl rfl rfl ?_
      try simp only [nz, nzShape, nzForm] at f6
      try simp only [nz, nzShape, nzForm] at f17
      all_goals
        refine' (w_fn rfl rfl (w_seq (w_reg (w_cons ?_ (w_cons ?_ (w_cons ?_ w_nil))) ?_) (w_go (w_seq (w_seq f6 (w_go (w_condf ?_ w_skip ?_))) (w_go (w_seq (w_seq (w_reg (w_cons ?_ w_nil) ?_) (w_go (w_block f17 ?_))) w_gor))))) ?_)
        all_goals (first | (simp only [x40, nz, rn, nzShape, nzForm, h7, Int.reduceLT, Int.reduceEq, List.contains_cons, List.contains_nil, Option.map_some, Option.map_none, reduceIte, reduceCtorEq, Nat.reduceEqDiff, Nat.reduceLT, Nat.reduceBEq, Nat.reduceAdd, Nat.reduceMul, Nat.reduceLeDiff, Nat.reduceSub, Bool.false_eq_true]; try rfl) | skip)
theorem r28_Same_okN (p0 : Form) (p1 : Form) : Sim (r28_Same p0 p1) fun r => ∀ ws, ws.map normA = [.agg [.sl p0.Roots.length (p0.Roots.flatMap (cint .i64)), .sl p0.Shapes.length (p0.Shapes.flatMap cShape), .sl p0.Slots.length (p0.Slots.flatMap (csl (cint .i64)))], .agg [.sl p1.Roots.length (p1.Roots.flatMap (cint .i64)), .sl p1.Shapes.length (p1.Shapes.flatMap cShape), .sl p1.Slots.length (p1.Slots.flatMap (csl (cint .i64)))]] → evI T 40 ws = some (.bool r, [.none, .none]) := fun r h => evI_okN (x := x40) rfl rfl rfl (r28_Same_ok p0 p1 r h)
end Go.Ab

/-
  Printed by gen.py.
-/
namespace Go.Ab
open Go
set_option linter.unusedVariables false
set_option linter.unusedSimpArgs false
set_option maxRecDepth 100000
set_option maxHeartbeats 4000000
theorem canon_Words_l1_bok (p0 : Form) (n1 : Int) (v2 : Int) : Sim (canon_Words_l1_b p0 n1 v2) fun x => fgt [1, 3, 7, 8, 9] (evX (evI T) x48_1 [(1, .box [.sl p0.Roots.length (p0.Roots.flatMap (cint .i64)), .sl p0.Shapes.length (p0.Shapes.flatMap cShape), .sl p0.Slots.length (p0.Slots.flatMap (csl (cint .i64)))]), (3, .int .i64 n1), (7, .sl p0.Shapes.length (p0.Shapes.flatMap cShape)), (8, .int .i64 ((p0.Shapes.length : Int))), (9, .int .i64 v2)]) = some (stpK (fun s => (.norm, [(1, .box [.sl p0.Roots.length (p0.Roots.flatMap (cint .i64)), .sl p0.Shapes.length (p0.Shapes.flatMap cShape), .sl p0.Slots.length (p0.Slots.flatMap (csl (cint .i64)))]), (3, .int .i64 s.1), (7, .sl p0.Shapes.length (p0.Shapes.flatMap cShape)), (8, .int .i64 ((p0.Shapes.length : Int))), (9, .int .i64 s.2)])) (fun r => (.exit 0, [(3, .int .i64 r)])) x) := by
  unfold canon_Words_l1_b
  refine sim_if (fun h1 => ?_) (fun h1 => ?_)
  · refine sim_bind (fun x_3 h2 => ?_)
    have f3 := ix_ok h2
    have f3o := ix_own2 h2
    have f4 := ix_cells szShape h2
    simp only [nz, nzShape, nzForm] at f4
    refine sim_some ?_
    refine' (w_fgt (w_seq (w_reg (w_cons ?_ w_nil) ?_) (w_go (w_seq (w_condt ?_ w_skip ?_) (w_go (w_seq (w_block (w_seq (w_reg (w_cons ?_ (w_cons ?_ (w_cons ?_ (w_cons ?_ w_nil)))) ?_) (w_go (w_reg (w_cons ?_ (w_cons ?_ (w_cons ?_ (w_cons ?_ (w_cons ?_ (w_cons ?_ w_nil)))))) ?_))) ?_) (w_go (w_reg (w_cons ?_ (w_cons ?_ w_nil)) ?_))))))) ?_)
    all_goals (first | (simp only [nz, rn, nzShape, nzForm, h1, f3, f3o, f4, Int.reduceLT, Int.reduceEq, List.contains_cons, List.contains_nil, Option.map_some, Option.map_none, reduceIte, reduceCtorEq, Nat.reduceEqDiff, Nat.reduceLT, Nat.reduceBEq, Nat.reduceAdd, Nat.reduceMul, Nat.reduceLeDiff, Nat.reduceSub, Bool.false_eq_true]; try rfl) | skip)
  · refine sim_some ?_
    refine' (w_fgt (w_seq (w_reg (w_cons ?_ w_nil) ?_) (w_go (w_seq (w_condf ?_ (w_exit ?_) ?_) w_gox))) ?_)
    all_goals (first | (simp only [nz, rn, nzShape, nzForm, h1, Int.reduceLT, Int.reduceEq, List.contains_cons, List.contains_nil, Option.map_some, Option.map_none, reduceIte, reduceCtorEq, Nat.reduceEqDiff, Nat.reduceLT, Nat.reduceBEq, Nat.reduceAdd, Nat.reduceMul, Nat.reduceLeDiff, Nat.reduceSub, Bool.false_eq_true]; try rfl) | skip)
theorem canon_Words_l1_ok (p0 : Form) (s : Int × Int) : Sim (canon_Words_l1 p0 s) fun r => evX (evI T) (.loop x48_1 [1, 3, 7, 8, 9]) [(1, .box [.sl p0.Roots.length (p0.Roots.flatMap (cint .i64)), .sl p0.Shapes.length (p0.Shapes.flatMap cShape), .sl p0.Slots.length (p0.Slots.flatMap (csl (cint .i64)))]), (3, .int .i64 s.1), (7, .sl p0.Shapes.length (p0.Shapes.flatMap cShape)), (8, .int .i64 ((p0.Shapes.length : Int))), (9, .int .i64 s.2)] = some (.exit 0, [(3, .int .i64 r)]) := by
  unfold canon_Words_l1
  exact loop_rule (C := evI T) (b := x48_1) (ks := [1, 3, 7, 8, 9]) (σ := Int × Int) (ρ := Int) (body := fun s => canon_Words_l1_b p0 s.1 s.2) (E := fun s => [(1, .box [.sl p0.Roots.length (p0.Roots.flatMap (cint .i64)), .sl p0.Shapes.length (p0.Shapes.flatMap cShape), .sl p0.Slots.length (p0.Slots.flatMap (csl (cint .i64)))]), (3, .int .i64 s.1), (7, .sl p0.Shapes.length (p0.Shapes.flatMap cShape)), (8, .int .i64 ((p0.Shapes.length : Int))), (9, .int .i64 s.2)]) (R := fun r => (.exit 0, [(3, .int .i64 r)])) (fun r h => nomatch h) (fun s => canon_Words_l1_bok p0 s.1 s.2) s
theorem canon_Words_ok (p0 : Form) : Sim (canon_Words p0) fun r => evI T 48 [.agg [.sl p0.Roots.length (p0.Roots.flatMap (cint .i64)), .sl p0.Shapes.length (p0.Shapes.flatMap cShape), .sl p0.Slots.length (p0.Slots.flatMap (csl (cint .i64)))]] = some (.int .i64 r, [.none]) := by
  unfold canon_Words
  refine sim_bind (fun n4 h5 => ?_)
  have f6 := canon_Words_l1_ok p0 (0, 0) _ h5
  dsimp only at f6
  refine sim_some ?_
  refine evI_ret (x := x48) rfl rfl rfl ?_
  try simp only [nz, nzShape, nzForm] at f6
  all_goals
    refine' (w_fn rfl rfl (w_seq (w_reg (w_cons ?_ (w_cons ?_ w_nil)) ?_) (w_go (w_seq (w_reg (w_cons ?_ w_nil) ?_) (w_go (w_seq (w_seq (w_reg (w_cons ?_ (w_cons ?_ (w_cons ?_ (w_cons ?_ w_nil)))) ?_) (w_go (w_block f6 ?_))) (w_go (w_seq (w_reg (w_cons ?_ (w_cons ?_ w_nil)) ?_) (w_go w_ret)))))))) ?_)
    all_goals (first | (simp only [x48, nz, rn, nzShape, nzForm, Int.reduceLT, Int.reduceEq, List.contains_cons, List.contains_nil, Option.map_some, Option.map_none, reduceIte, reduceCtorEq, Nat.reduceEqDiff, Nat.reduceLT, Nat.reduceBEq, Nat.reduceAdd, Nat.reduceMul, Nat.reduceLeDiff, Nat.reduceSub, Bool.false_eq_true]; try rfl) | skip)
theorem canon_Words_okN (p0 : Form) : Sim (canon_Words p0) fun r => ∀ ws, ws.map normA = [.agg [.sl p0.Roots.length (p0.Roots.flatMap (cint .i64)), .sl p0.Shapes.length (p0.Shapes.flatMap cShape), .sl p0.Slots.length (p0.Slots.flatMap (csl (cint .i64)))]] → evI T 48 ws = some (.int .i64 r, [.none]) := fun r h => evI_okN (x := x48) rfl rfl rfl (canon_Words_ok p0 r h)
end Go.Ab

/-
  Printed by gen.py.
-/
namespace Go.Ab
open Go
set_option linter.unusedVariables false
set_option linter.unusedSimpArgs false
set_option maxRecDepth 100000
set_option maxHeartbeats 4000000
theorem r28_Words_l1_bok (p0 : Form) (n1 : Int) (i2 : Int) : Sim (r28_Words_l1_b p0 n1 i2) fun x => fgt [1, 3, 4] (evX (evI T) x49_1 [(1, .box [.sl p0.Roots.length (p0.Roots.flatMap (cint .i64)), .sl p0.Shapes.length (p0.Shapes.flatMap cShape), .sl p0.Slots.length (p0.Slots.flatMap (csl (cint .i64)))]), (3, .int .i64 n1), (4, .int .i64 i2)]) = some (stpK (fun s => (.norm, [(1, .box [.sl p0.Roots.length (p0.Roots.flatMap (cint .i64)), .sl p0.Shapes.length (p0.Shapes.flatMap cShape), .sl p0.Slots.length (p0.Slots.flatMap (csl (cint .i64)))]), (3, .int .i64 s.1), (4, .int .i64 s.2)])) (fun r => (.exit 0, [(3, .int .i64 r)])) x) := by
  unfold r28_Words_l1_b
  refine sim_if (fun h1 => ?_) (fun h1 => ?_)
  · refine sim_bind (fun x_3 h2 => ?_)
    have f3 := ix_ok h2
    have f3o := ix_own2 h2
    have f4 := ix_cells szShape h2
    simp only [nz, nzShape, nzForm] at f4
    refine sim_some ?_
    refine' (w_fgt (w_seq (w_seq (w_reg (w_cons ?_ (w_cons ?_ (w_cons ?_ (w_cons ?_ (w_cons ?_ w_nil))))) ?_) (w_go (w_condt ?_ w_skip ?_))) (w_go (w_seq (w_block (w_reg (w_cons ?_ (w_cons ?_ (w_cons ?_ (w_cons ?_ (w_cons ?_ (w_cons ?_ (w_cons ?_ (w_cons ?_ (w_cons ?_ (w_cons ?_ w_nil)))))))))) ?_) ?_) (w_go (w_reg (w_cons ?_ (w_cons ?_ (w_cons ?_ w_nil))) ?_))))) ?_)
    all_goals (first | (simp only [nz, rn, nzShape, nzForm, h1, f3, f3o, f4, Int.reduceLT, Int.reduceEq, List.contains_cons, List.contains_nil, Option.map_some, Option.map_none, reduceIte, reduceCtorEq, Nat.reduceEqDiff, Nat.reduceLT, Nat.reduceBEq, Nat.reduceAdd, Nat.reduceMul, Nat.reduceLeDiff, Nat.reduceSub, Bool.false_eq_true]; try rfl) | skip)
  · refine sim_some ?_
    refine' (w_fgt (w_seq (w_seq (w_reg (w_cons ?_ (w_cons ?_ (w_cons ?_ (w_cons ?_ (w_cons ?_ w_nil))))) ?_) (w_go (w_condf ?_ (w_exit ?_) ?_))) w_gox) ?_)
    all_goals (first | (simp only [nz, rn, nzShape, nzForm, h1, Int.reduceLT, Int.reduceEq, List.contains_cons, List.contains_nil, Option.map_some, Option.map_none, reduceIte, reduceCtorEq, Nat.reduceEqDiff, Nat.reduceLT, Nat.reduceBEq, Nat.reduceAdd, Nat.reduceMul, Nat.reduceLeDiff, Nat.reduceSub, Bool.false_eq_true]; try rfl) | skip)
theorem r28_Words_l1_ok (p0 : Form) (s : Int × Int) : Sim (r28_Words_l1 p0 s) fun r => evX (evI T) (.loop x49_1 [1, 3, 4]) [(1, .box [.sl p0.Roots.length (p0.Roots.flatMap (cint .i64)), .sl p0.Shapes.length (p0.Shapes.flatMap cShape), .sl p0.Slots.length (p0.Slots.flatMap (csl (cint .i64)))]), (3, .int .i64 s.1), (4, .int .i64 s.2)] = some (.exit 0, [(3, .int .i64 r)]) := by
  unfold r28_Words_l1
  exact loop_rule (C := evI T) (b := x49_1) (ks := [1, 3, 4]) (σ := Int × Int) (ρ := Int) (body := fun s => r28_Words_l1_b p0 s.1 s.2) (E := fun s => [(1, .box [.sl p0.Roots.length (p0.Roots.flatMap (cint .i64)), .sl p0.Shapes.length (p0.Shapes.flatMap cShape), .sl p0.Slots.length (p0.Slots.flatMap (csl (cint .i64)))]), (3, .int .i64 s.1), (4, .int .i64 s.2)]) (R := fun r => (.exit 0, [(3, .int .i64 r)])) (fun r h => nomatch h) (fun s => r28_Words_l1_bok p0 s.1 s.2) s
theorem r28_Words_ok (p0 : Form) : Sim (r28_Words p0) fun r => evI T 49 [.agg [.sl p0.Roots.length (p0.Roots.flatMap (cint .i64)), .sl p0.Shapes.length (p0.Shapes.flatMap cShape), .sl p0.Slots.length (p0.Slots.flatMap (csl (cint .i64)))]] = some (.int .i64 r, [.none]) := by
  unfold r28_Words
  refine sim_bind (fun n4 h5 => ?_)
  have f6 := r28_Words_l1_ok p0 (0, 0) _ h5
  dsimp only at f6
  refine sim_some ?_
  refine evI_ret (x := x49) rfl rfl rfl ?_
  try simp only [nz, nzShape, nzForm] at f6
  all_goals
    refine' (w_fn rfl rfl (w_seq (w_reg (w_cons ?_ (w_cons ?_ w_nil)) ?_) (w_go (w_seq (w_reg (w_cons ?_ w_nil) ?_) (w_go (w_seq (w_seq (w_reg (w_cons ?_ w_nil) ?_) (w_go (w_block f6 ?_))) (w_go (w_seq (w_reg (w_cons ?_ (w_cons ?_ w_nil)) ?_) (w_go w_ret)))))))) ?_)
    all_goals (first | (simp only [x49, nz, rn, nzShape, nzForm, Int.reduceLT, Int.reduceEq, List.contains_cons, List.contains_nil, Option.map_some, Option.map_none, reduceIte, reduceCtorEq, Nat.reduceEqDiff, Nat.reduceLT, Nat.reduceBEq, Nat.reduceAdd, Nat.reduceMul, Nat.reduceLeDiff, Nat.reduceSub, Bool.false_eq_true]; try rfl) | skip)
theorem r28_Words_okN (p0 : Form) : Sim (r28_Words p0) fun r => ∀ ws, ws.map normA = [.agg [.sl p0.Roots.length (p0.Roots.flatMap (cint .i64)), .sl p0.Shapes.length (p0.Shapes.flatMap cShape), .sl p0.Slots.length (p0.Slots.flatMap (csl (cint .i64)))]] → evI T 49 ws = some (.int .i64 r, [.none]) := fun r h => evI_okN (x := x49) rfl rfl rfl (r28_Words_ok p0 r h)
end Go.Ab
