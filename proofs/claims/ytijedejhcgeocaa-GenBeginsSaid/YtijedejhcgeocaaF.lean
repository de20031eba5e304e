/-
  Texts of this seat.
-/
import Derived.Test.YtijedejhcgeocaaE
import Derived.KernelRfl
import Derived.Test.YtijedejhcgeocaaProg
namespace Go.Ab
open Go
set_option linter.unusedVariables false
set_option linter.unusedSimpArgs false
set_option maxRecDepth 10000
set_option maxHeartbeats 4000000

theorem wrap64 {n : Int} (h : -9223372036854775808 ≤ n ∧ n ≤ 9223372036854775807) : IntKind.i64.wrap n = n := wrap_id h.1 (by omega)

theorem wrl0 : IntKind.i64.wrap 0 = 0 := by decide
theorem wrl1 : IntKind.i64.wrap 1 = 1 := by decide
theorem wrl2 : IntKind.i64.wrap 2 = 2 := by decide
theorem wrl3 : IntKind.i64.wrap 3 = 3 := by decide

variable {K : HCalls}

theorem ans111 (hk : ∀ ws st, K 111 ws st = .none) (n : Nat) (lo sz : Int) (st : HSt) (h : -9223372036854775808 ≤ lo + sz ∧ lo + sz ≤ 9223372036854775807) : evHF C0 K TH (n + 6) 111 [.p (.int .i64 lo), .p (.int .i64 sz)] st = some (.p (.agg [.int .i64 lo, .int .i64 (lo + sz), .int .i64 lo]), st ++ [.box [.p (.int .i64 lo), .p (.int .i64 (lo + sz)), .p (.int .i64 lo)]]) := by
  refine evHF_in (n := n + 5) hk (x := h111) rfl rfl ?_
  simp (config := { maxSteps := 4000000 }) [↓evP_call0, ↓evP_callv0, ↓oel_some, ↓oel_none, ↓bel_true, ↓bel_false, ↓hvel_true, ↓hvel_false, ↓exel_norm, ↓exel_ret, ↓exel_exit, ↓retel_norm, ↓retel_ret, oel_some, oel_none, bel_true, bel_false, hvel_true, hvel_false, exel_norm, exel_ret, exel_exit, retel_norm, retel_ret, fgtH_norm, fgtH_ret, fgtH_exit, blkel_norm, blkel_ret, blkel_exit, get_nil, get_cons, set_nil, set_cons, keep_nil, keep_cons, params_nil, params_cons, lookHG_t, lookHG_k, lookHG_f, alG, lookPG_t, lookPG_k, lookPG_f, wantsE_none, wantsE_some, wantB_bool, wantB_skip, stepsH_nil, stepsH_cons, stepH_eq, stepHL_eq, evHP_x, evHP_bm, evHP_snil, evHP_slc0, evHP_copy, evHC_skip, evHC_ret, evHC_exit, evHC_reg, evHC_regD, evHC_seq, evHC_cond, evHC_block, evHC_loop, HOp.temps, HOp.opds, XOp.opds, optO, tempsO, hland, land1, evHX, evHV, evHN, evP, evHS, toP, vis, PV.loose, noOwn, noOwnL, refs, refsL, fresh, al, alL, fr_none, fr_bool, fr_int, fr_str, fr_nilp, fr_nils, fr_nilf, fr_sl, fr_sp, fr_ref, fr_view, fr_box, fr_own, fr_agg, fr_tup, fr_fn, setH, pvBin, intBin, fillH, fillP, PV.lok, cellsH, cells, HV.one, partsO, mkAgg, mkTup, allP, setCellsH, blkCells, partH, resHL, resH1, resT, tupHOf, slElems, bnd, idxOk, pvPeq, pvBeq, pvUn, mkOwn, rep, lendL, getElem?_len, getElem?_len0, set_len0, set_len, lim, part, norm1, slCells, h111, wrap64 h]

def heap27 (a b : Int) : List PV := [.nils, .int .i64 1, .int .i64 (1 + a), .int .i64 1, .int .i64 (1 + a), .int .i64 (1 + a + b), .int .i64 (1 + a), .int .i64 (1 + a + b), .int .i64 (1 + a + b + b), .int .i64 (1 + a + b), .nils, .int .i64 0, .int .i64 0]

theorem ans58 (hk : ∀ ws st, K 58 ws st = .none) (hk' : ∀ ws st, K 111 ws st = .none) (a b : Int) (st : HSt) (h : 0 ≤ a ∧ a ≤ 1048576 ∧ 0 ≤ b ∧ b ≤ 1048576) :
    ∃ g, ∀ n, evHF C0 K TH (n + 20) 58 [.p (.int .i64 a), .p (.int .i64 b)] st = some (.p (.tup [.agg (heap27 a b), .int .i64 0]), st ++ g) := by
  have h1 : ¬ a < 0 := by omega
  have h2 : ¬ 1048576 < a := by omega
  have h3 : ¬ b < 0 := by omega
  have h4 : ¬ 1048576 < b := by omega
  have w1 := @wrap64 (1 + a) (by omega)
  have w2 := @wrap64 (1 + a + b) (by omega)
  have e1 := fun n st => ans111 hk' n 1 a st (by omega)
  have e2 := fun n st => ans111 hk' n (1 + a) b st (by omega)
  have e3 := fun n st => ans111 hk' n (1 + a + b) b st (by omega)
  apply Exists.intro
  intro n
  refine evHF_in (n := n + 19) hk (x := h58) rfl rfl ?_
  · simp (config := { maxSteps := 4000000 }) [↓evP_call0, ↓evP_callv0, ↓oel_some, ↓oel_none, ↓bel_true, ↓bel_false, ↓hvel_true, ↓hvel_false, ↓exel_norm, ↓exel_ret, ↓exel_exit, ↓retel_norm, ↓retel_ret, oel_some, oel_none, bel_true, bel_false, hvel_true, hvel_false, exel_norm, exel_ret, exel_exit, retel_norm, retel_ret, fgtH_norm, fgtH_ret, fgtH_exit, blkel_norm, blkel_ret, blkel_exit, get_nil, get_cons, set_nil, set_cons, keep_nil, keep_cons, params_nil, params_cons, lookHG_t, lookHG_k, lookHG_f, alG, lookPG_t, lookPG_k, lookPG_f, wantsE_none, wantsE_some, wantB_bool, wantB_skip, stepsH_nil, stepsH_cons, stepH_eq, stepHL_eq, evHP_x, evHP_bm, evHP_snil, evHP_slc0, evHP_copy, evHC_skip, evHC_ret, evHC_exit, evHC_reg, evHC_regD, evHC_seq, evHC_cond, evHC_block, evHC_loop, HOp.temps, HOp.opds, XOp.opds, optO, tempsO, hland, land1, evHX, evHV, evHN, evP, evHS, toP, vis, PV.loose, noOwn, noOwnL, refs, refsL, fresh, al, alL, fr_none, fr_bool, fr_int, fr_str, fr_nilp, fr_nils, fr_nilf, fr_sl, fr_sp, fr_ref, fr_view, fr_box, fr_own, fr_agg, fr_tup, fr_fn, setH, pvBin, intBin, fillH, fillP, PV.lok, cellsH, cells, HV.one, partsO, mkAgg, mkTup, allP, setCellsH, blkCells, partH, resHL, resH1, resT, tupHOf, slElems, bnd, idxOk, pvPeq, pvBeq, pvUn, mkOwn, rep, lendL, getElem?_len, getElem?_len0, set_len0, set_len, lim, part, norm1, slCells, h58, h1, h2, h3, h4, w1, w2, e1, e2, e3]
    all_goals exact ⟨rfl, rfl⟩

theorem rep_free (n : Nat) : ∀ x ∈ rep n [PV.int .i64 0], PV.free x = true := by
  induction n with
  | zero => intro x h; cases h
  | succ n ih =>
    intro x h
    rcases List.mem_append.1 h with h | h
    · simp at h; subst h; rfl
    · exact ih x h
theorem rep_len (n : Nat) : (rep n [PV.int .i64 0]).length = n := by
  induction n with
  | zero => rfl
  | succ n ih => simp [rep, ih]

end Go.Ab

namespace Go.Ab
open Go
set_option linter.unusedVariables false
set_option linter.unusedSimpArgs false
set_option maxRecDepth 10000
set_option maxHeartbeats 4000000
variable {K : HCalls}

/-- the blocks that space.New leaves -/
def new64 (L : Nat) (a b c : Int) : List HB :=
  [.row 1 3 [.p (.int .i64 a), .p (.int .i64 b), .p (.int .i64 c)],
   .row 3 1 [.p (.int .i64 1), .p (.int .i64 (1 + a)), .p (.int .i64 1)], .dead,
   .row 3 1 [.p (.int .i64 (1 + a)), .p (.int .i64 (1 + a + b)), .p (.int .i64 (1 + a))], .dead,
   .row 3 1 [.p (.int .i64 (1 + a + b)), .p (.int .i64 (1 + a + b + c)), .p (.int .i64 (1 + a + b))],
   .row 3 3 [.p (.int .i64 1), .p (.int .i64 (1 + a)), .p (.int .i64 1), .p (.int .i64 (1 + a)), .p (.int .i64 (1 + a + b)), .p (.int .i64 (1 + a)), .p (.int .i64 (1 + a + b)), .p (.int .i64 (1 + a + b + c)), .p (.int .i64 (1 + a + b))],
   .row 1 (1 + a + b + c).toNat ((rep (1 + a + b + c).toNat [.int .i64 0]).map .p), .box [.row (L + 7) 0 (1 + a + b + c).toNat 1]]

theorem ans64 (hk : ∀ ws st, K 64 ws st = .none) (n : Nat) (a b c : Int) (st : HSt) (h : 0 ≤ a ∧ a ≤ 2000000 ∧ 0 ≤ b ∧ b ≤ 2000000 ∧ 0 ≤ c ∧ c ≤ 2000000) :
    evHF C0 K TH (n + 40) 64 [.row st.length 0 3 1] (st ++ [.row 1 3 [.p (.int .i64 a), .p (.int .i64 b), .p (.int .i64 c)]]) = some (.tup [.ptr (st.length + 8) 0, .row (st.length + 6) 0 3 3], st ++ new64 st.length a b c) := by
  have w1 := @wrap64 (1 + a) (by omega)
  have w2 := @wrap64 (1 + a + b) (by omega)
  unfold new64
  obtain ⟨N, hN⟩ : ∃ N : Nat, 1 + a + b + c = (N : Int) := ⟨(1 + a + b + c).toNat, by omega⟩
  have w3 : IntKind.i64.wrap (1 + a + b + c) = (N : Int) := by rw [wrap64 (by omega), hN]
  rw [hN]
  have n1 : N * 8 ≤ 1099511627776 := by omega
  have n2 : N ≤ 1099511627776 := by omega
  have n3 : N ≠ 0 := by omega
  have n4 : (rep N [PV.int .i64 0]).all PV.free = true := List.all_eq_true.2 (rep_free N)
  have n5 : (∀ x ∈ rep N [PV.int .i64 0], PV.free x = true) = True := eq_true (rep_free N)
  refine evHF_in (n := n + 39) hk (x := h64) rfl rfl ?_
  simp (config := { maxSteps := 4000000 }) [↓evP_call0, ↓evP_callv0, ↓oel_some, ↓oel_none, ↓bel_true, ↓bel_false, ↓hvel_true, ↓hvel_false, ↓exel_norm, ↓exel_ret, ↓exel_exit, ↓retel_norm, ↓retel_ret, oel_some, oel_none, bel_true, bel_false, hvel_true, hvel_false, exel_norm, exel_ret, exel_exit, retel_norm, retel_ret, fgtH_norm, fgtH_ret, fgtH_exit, blkel_norm, blkel_ret, blkel_exit, get_nil, get_cons, set_nil, set_cons, keep_nil, keep_cons, params_nil, params_cons, lookHG_t, lookHG_k, lookHG_f, alG, lookPG_t, lookPG_k, lookPG_f, wantsE_none, wantsE_some, wantB_bool, wantB_skip, stepsH_nil, stepsH_cons, stepH_eq, stepHL_eq, evHP_x, evHP_bm, evHP_snil, evHP_slc0, evHP_copy, evHC_skip, evHC_ret, evHC_exit, evHC_reg, evHC_regD, evHC_seq, evHC_cond, evHC_block, evHC_loop, HOp.temps, HOp.opds, XOp.opds, optO, tempsO, hland, land1, evHX, evHV, evHN, evP, evHS, toP, vis, PV.loose, noOwn, noOwnL, refs, refsL, fresh, al, alL, fr_none, fr_bool, fr_int, fr_str, fr_nilp, fr_nils, fr_nilf, fr_sl, fr_sp, fr_ref, fr_view, fr_box, fr_own, fr_agg, fr_tup, fr_fn, setH, pvBin, intBin, fillH, fillP, PV.lok, cellsH, cells, HV.one, partsO, mkAgg, mkTup, allP, setCellsH, blkCells, partH, resHL, resH1, resT, tupHOf, slElems, bnd, idxOk, pvPeq, pvBeq, pvUn, mkOwn, rep, lendL, getElem?_len, getElem?_len0, set_len0, set_len, lim, part, norm1, slCells, h64, w1, w2, w3, n1, n2, n3, n4, n5, len_app, wrl1, wrl2, wrl3]

end Go.Ab

namespace Go.Ab
open Go
set_option linter.unusedVariables false
set_option linter.unusedSimpArgs false
set_option maxRecDepth 10000
set_option maxHeartbeats 4000000
variable {K : HCalls}

theorem ans57 (hk : ∀ ws st, K 57 ws st = .none) (hk' : ∀ ws st, K 64 ws st = .none) (a b : Int) (st : HSt) (h : 0 ≤ a ∧ a ≤ 1048576 ∧ 0 ≤ b ∧ b ≤ 1048576) :
    ∃ i g, ∀ n, evHF C0 K TH (n + 60) 57 [.p (.int .i64 a), .p (.int .i64 b)] st = some (.tup [.ptr i 0, .p (.int .i64 0)], st ++ g) := by
  have h1 : ¬ a < 0 := by omega
  have h2 : ¬ 1048576 < a := by omega
  have h3 : ¬ b < 0 := by omega
  have h4 : ¬ 1048576 < b := by omega
  have e1 := fun n st => ans64 hk' n a b b st (by omega)
  apply Exists.intro
  apply Exists.intro
  intro n
  refine evHF_in (n := n + 59) hk (x := h57) rfl rfl ?_
  simp (config := { maxSteps := 4000000 }) [↓evP_call0, ↓evP_callv0, ↓oel_some, ↓oel_none, ↓bel_true, ↓bel_false, ↓hvel_true, ↓hvel_false, ↓exel_norm, ↓exel_ret, ↓exel_exit, ↓retel_norm, ↓retel_ret, oel_some, oel_none, bel_true, bel_false, hvel_true, hvel_false, exel_norm, exel_ret, exel_exit, retel_norm, retel_ret, fgtH_norm, fgtH_ret, fgtH_exit, blkel_norm, blkel_ret, blkel_exit, get_nil, get_cons, set_nil, set_cons, keep_nil, keep_cons, params_nil, params_cons, lookHG_t, lookHG_k, lookHG_f, alG, lookPG_t, lookPG_k, lookPG_f, wantsE_none, wantsE_some, wantB_bool, wantB_skip, stepsH_nil, stepsH_cons, stepH_eq, stepHL_eq, evHP_x, evHP_bm, evHP_snil, evHP_slc0, evHP_copy, evHC_skip, evHC_ret, evHC_exit, evHC_reg, evHC_regD, evHC_seq, evHC_cond, evHC_block, evHC_loop, HOp.temps, HOp.opds, XOp.opds, optO, tempsO, hland, land1, evHX, evHV, evHN, evP, evHS, toP, vis, PV.loose, noOwn, noOwnL, refs, refsL, fresh, al, alL, fr_none, fr_bool, fr_int, fr_str, fr_nilp, fr_nils, fr_nilf, fr_sl, fr_sp, fr_ref, fr_view, fr_box, fr_own, fr_agg, fr_tup, fr_fn, setH, pvBin, intBin, fillH, fillP, PV.lok, cellsH, cells, HV.one, partsO, mkAgg, mkTup, allP, setCellsH, blkCells, partH, resHL, resH1, resT, tupHOf, slElems, bnd, idxOk, pvPeq, pvBeq, pvUn, mkOwn, rep, lendL, getElem?_len, getElem?_len0, set_len0, set_len, lim, part, norm1, slCells, h57, h1, h2, h3, h4, e1, new64, regHD_eq, traceHD_nil, traceHD_cons, stepHD_eq, isFresh, stableAll, stableOp, lastO]
  all_goals exact ⟨rfl, rfl⟩

theorem bad57 (hk : ∀ ws st, K 57 ws st = .none) (n : Nat) (a b : Int) (st : HSt) (h : a < 0 ∨ 1048576 < a ∨ b < 0 ∨ 1048576 < b) :
    evHF C0 K TH (n + 60) 57 [.p (.int .i64 a), .p (.int .i64 b)] st = some (.p (.tup [.nilp, .int .i64 18]), st) := by
  refine evHF_in (n := n + 59) hk (x := h57) rfl rfl ?_
  by_cases h1 : a < 0
  · simp (config := { maxSteps := 4000000 }) [↓evP_call0, ↓evP_callv0, ↓oel_some, ↓oel_none, ↓bel_true, ↓bel_false, ↓hvel_true, ↓hvel_false, ↓exel_norm, ↓exel_ret, ↓exel_exit, ↓retel_norm, ↓retel_ret, oel_some, oel_none, bel_true, bel_false, hvel_true, hvel_false, exel_norm, exel_ret, exel_exit, retel_norm, retel_ret, fgtH_norm, fgtH_ret, fgtH_exit, blkel_norm, blkel_ret, blkel_exit, get_nil, get_cons, set_nil, set_cons, keep_nil, keep_cons, params_nil, params_cons, lookHG_t, lookHG_k, lookHG_f, alG, lookPG_t, lookPG_k, lookPG_f, wantsE_none, wantsE_some, wantB_bool, wantB_skip, stepsH_nil, stepsH_cons, stepH_eq, stepHL_eq, evHP_x, evHP_bm, evHP_snil, evHP_slc0, evHP_copy, evHC_skip, evHC_ret, evHC_exit, evHC_reg, evHC_regD, evHC_seq, evHC_cond, evHC_block, evHC_loop, HOp.temps, HOp.opds, XOp.opds, optO, tempsO, hland, land1, evHX, evHV, evHN, evP, evHS, toP, vis, PV.loose, noOwn, noOwnL, refs, refsL, fresh, al, alL, fr_none, fr_bool, fr_int, fr_str, fr_nilp, fr_nils, fr_nilf, fr_sl, fr_sp, fr_ref, fr_view, fr_box, fr_own, fr_agg, fr_tup, fr_fn, setH, pvBin, intBin, fillH, fillP, PV.lok, cellsH, cells, HV.one, partsO, mkAgg, mkTup, allP, setCellsH, blkCells, partH, resHL, resH1, resT, tupHOf, slElems, bnd, idxOk, pvPeq, pvBeq, pvUn, mkOwn, rep, lendL, getElem?_len, getElem?_len0, set_len0, set_len, lim, part, norm1, slCells, h57, h1]
  by_cases h3 : b < 0
  · simp (config := { maxSteps := 4000000 }) [↓evP_call0, ↓evP_callv0, ↓oel_some, ↓oel_none, ↓bel_true, ↓bel_false, ↓hvel_true, ↓hvel_false, ↓exel_norm, ↓exel_ret, ↓exel_exit, ↓retel_norm, ↓retel_ret, oel_some, oel_none, bel_true, bel_false, hvel_true, hvel_false, exel_norm, exel_ret, exel_exit, retel_norm, retel_ret, fgtH_norm, fgtH_ret, fgtH_exit, blkel_norm, blkel_ret, blkel_exit, get_nil, get_cons, set_nil, set_cons, keep_nil, keep_cons, params_nil, params_cons, lookHG_t, lookHG_k, lookHG_f, alG, lookPG_t, lookPG_k, lookPG_f, wantsE_none, wantsE_some, wantB_bool, wantB_skip, stepsH_nil, stepsH_cons, stepH_eq, stepHL_eq, evHP_x, evHP_bm, evHP_snil, evHP_slc0, evHP_copy, evHC_skip, evHC_ret, evHC_exit, evHC_reg, evHC_regD, evHC_seq, evHC_cond, evHC_block, evHC_loop, HOp.temps, HOp.opds, XOp.opds, optO, tempsO, hland, land1, evHX, evHV, evHN, evP, evHS, toP, vis, PV.loose, noOwn, noOwnL, refs, refsL, fresh, al, alL, fr_none, fr_bool, fr_int, fr_str, fr_nilp, fr_nils, fr_nilf, fr_sl, fr_sp, fr_ref, fr_view, fr_box, fr_own, fr_agg, fr_tup, fr_fn, setH, pvBin, intBin, fillH, fillP, PV.lok, cellsH, cells, HV.one, partsO, mkAgg, mkTup, allP, setCellsH, blkCells, partH, resHL, resH1, resT, tupHOf, slElems, bnd, idxOk, pvPeq, pvBeq, pvUn, mkOwn, rep, lendL, getElem?_len, getElem?_len0, set_len0, set_len, lim, part, norm1, slCells, h57, h1, h3]
  by_cases h2 : 1048576 < a
  · simp (config := { maxSteps := 4000000 }) [↓evP_call0, ↓evP_callv0, ↓oel_some, ↓oel_none, ↓bel_true, ↓bel_false, ↓hvel_true, ↓hvel_false, ↓exel_norm, ↓exel_ret, ↓exel_exit, ↓retel_norm, ↓retel_ret, oel_some, oel_none, bel_true, bel_false, hvel_true, hvel_false, exel_norm, exel_ret, exel_exit, retel_norm, retel_ret, fgtH_norm, fgtH_ret, fgtH_exit, blkel_norm, blkel_ret, blkel_exit, get_nil, get_cons, set_nil, set_cons, keep_nil, keep_cons, params_nil, params_cons, lookHG_t, lookHG_k, lookHG_f, alG, lookPG_t, lookPG_k, lookPG_f, wantsE_none, wantsE_some, wantB_bool, wantB_skip, stepsH_nil, stepsH_cons, stepH_eq, stepHL_eq, evHP_x, evHP_bm, evHP_snil, evHP_slc0, evHP_copy, evHC_skip, evHC_ret, evHC_exit, evHC_reg, evHC_regD, evHC_seq, evHC_cond, evHC_block, evHC_loop, HOp.temps, HOp.opds, XOp.opds, optO, tempsO, hland, land1, evHX, evHV, evHN, evP, evHS, toP, vis, PV.loose, noOwn, noOwnL, refs, refsL, fresh, al, alL, fr_none, fr_bool, fr_int, fr_str, fr_nilp, fr_nils, fr_nilf, fr_sl, fr_sp, fr_ref, fr_view, fr_box, fr_own, fr_agg, fr_tup, fr_fn, setH, pvBin, intBin, fillH, fillP, PV.lok, cellsH, cells, HV.one, partsO, mkAgg, mkTup, allP, setCellsH, blkCells, partH, resHL, resH1, resT, tupHOf, slElems, bnd, idxOk, pvPeq, pvBeq, pvUn, mkOwn, rep, lendL, getElem?_len, getElem?_len0, set_len0, set_len, lim, part, norm1, slCells, h57, h1, h2, h3]
  by_cases h4 : 1048576 < b
  · simp (config := { maxSteps := 4000000 }) [↓evP_call0, ↓evP_callv0, ↓oel_some, ↓oel_none, ↓bel_true, ↓bel_false, ↓hvel_true, ↓hvel_false, ↓exel_norm, ↓exel_ret, ↓exel_exit, ↓retel_norm, ↓retel_ret, oel_some, oel_none, bel_true, bel_false, hvel_true, hvel_false, exel_norm, exel_ret, exel_exit, retel_norm, retel_ret, fgtH_norm, fgtH_ret, fgtH_exit, blkel_norm, blkel_ret, blkel_exit, get_nil, get_cons, set_nil, set_cons, keep_nil, keep_cons, params_nil, params_cons, lookHG_t, lookHG_k, lookHG_f, alG, lookPG_t, lookPG_k, lookPG_f, wantsE_none, wantsE_some, wantB_bool, wantB_skip, stepsH_nil, stepsH_cons, stepH_eq, stepHL_eq, evHP_x, evHP_bm, evHP_snil, evHP_slc0, evHP_copy, evHC_skip, evHC_ret, evHC_exit, evHC_reg, evHC_regD, evHC_seq, evHC_cond, evHC_block, evHC_loop, HOp.temps, HOp.opds, XOp.opds, optO, tempsO, hland, land1, evHX, evHV, evHN, evP, evHS, toP, vis, PV.loose, noOwn, noOwnL, refs, refsL, fresh, al, alL, fr_none, fr_bool, fr_int, fr_str, fr_nilp, fr_nils, fr_nilf, fr_sl, fr_sp, fr_ref, fr_view, fr_box, fr_own, fr_agg, fr_tup, fr_fn, setH, pvBin, intBin, fillH, fillP, PV.lok, cellsH, cells, HV.one, partsO, mkAgg, mkTup, allP, setCellsH, blkCells, partH, resHL, resH1, resT, tupHOf, slElems, bnd, idxOk, pvPeq, pvBeq, pvUn, mkOwn, rep, lendL, getElem?_len, getElem?_len0, set_len0, set_len, lim, part, norm1, slCells, h57, h1, h2, h3, h4]
  omega

theorem bad58 (hk : ∀ ws st, K 58 ws st = .none) (a b : Int) (st : HSt) (h : a < 0 ∨ 1048576 < a ∨ b < 0 ∨ 1048576 < b) :
    ∃ g, ∀ n, evHF C0 K TH (n + 60) 58 [.p (.int .i64 a), .p (.int .i64 b)] st = some (.p (.tup [.agg [.nils, .int .i64 0, .int .i64 0, .int .i64 0, .int .i64 0, .int .i64 0, .int .i64 0, .int .i64 0, .int .i64 0, .int .i64 0, .nils, .int .i64 0, .int .i64 0], .int .i64 18]), st ++ g) := by
  apply Exists.intro
  intro n
  refine evHF_in (n := n + 59) hk (x := h58) rfl rfl ?_
  by_cases h1 : a < 0
  · simp (config := { maxSteps := 4000000 }) [↓evP_call0, ↓evP_callv0, ↓oel_some, ↓oel_none, ↓bel_true, ↓bel_false, ↓hvel_true, ↓hvel_false, ↓exel_norm, ↓exel_ret, ↓exel_exit, ↓retel_norm, ↓retel_ret, oel_some, oel_none, bel_true, bel_false, hvel_true, hvel_false, exel_norm, exel_ret, exel_exit, retel_norm, retel_ret, fgtH_norm, fgtH_ret, fgtH_exit, blkel_norm, blkel_ret, blkel_exit, get_nil, get_cons, set_nil, set_cons, keep_nil, keep_cons, params_nil, params_cons, lookHG_t, lookHG_k, lookHG_f, alG, lookPG_t, lookPG_k, lookPG_f, wantsE_none, wantsE_some, wantB_bool, wantB_skip, stepsH_nil, stepsH_cons, stepH_eq, stepHL_eq, evHP_x, evHP_bm, evHP_snil, evHP_slc0, evHP_copy, evHC_skip, evHC_ret, evHC_exit, evHC_reg, evHC_regD, evHC_seq, evHC_cond, evHC_block, evHC_loop, HOp.temps, HOp.opds, XOp.opds, optO, tempsO, hland, land1, evHX, evHV, evHN, evP, evHS, toP, vis, PV.loose, noOwn, noOwnL, refs, refsL, fresh, al, alL, fr_none, fr_bool, fr_int, fr_str, fr_nilp, fr_nils, fr_nilf, fr_sl, fr_sp, fr_ref, fr_view, fr_box, fr_own, fr_agg, fr_tup, fr_fn, setH, pvBin, intBin, fillH, fillP, PV.lok, cellsH, cells, HV.one, partsO, mkAgg, mkTup, allP, setCellsH, blkCells, partH, resHL, resH1, resT, tupHOf, slElems, bnd, idxOk, pvPeq, pvBeq, pvUn, mkOwn, rep, lendL, getElem?_len, getElem?_len0, set_len0, set_len, lim, part, norm1, slCells, h58, h1]
    all_goals exact rfl
  by_cases h2 : 1048576 < a
  · simp (config := { maxSteps := 4000000 }) [↓evP_call0, ↓evP_callv0, ↓oel_some, ↓oel_none, ↓bel_true, ↓bel_false, ↓hvel_true, ↓hvel_false, ↓exel_norm, ↓exel_ret, ↓exel_exit, ↓retel_norm, ↓retel_ret, oel_some, oel_none, bel_true, bel_false, hvel_true, hvel_false, exel_norm, exel_ret, exel_exit, retel_norm, retel_ret, fgtH_norm, fgtH_ret, fgtH_exit, blkel_norm, blkel_ret, blkel_exit, get_nil, get_cons, set_nil, set_cons, keep_nil, keep_cons, params_nil, params_cons, lookHG_t, lookHG_k, lookHG_f, alG, lookPG_t, lookPG_k, lookPG_f, wantsE_none, wantsE_some, wantB_bool, wantB_skip, stepsH_nil, stepsH_cons, stepH_eq, stepHL_eq, evHP_x, evHP_bm, evHP_snil, evHP_slc0, evHP_copy, evHC_skip, evHC_ret, evHC_exit, evHC_reg, evHC_regD, evHC_seq, evHC_cond, evHC_block, evHC_loop, HOp.temps, HOp.opds, XOp.opds, optO, tempsO, hland, land1, evHX, evHV, evHN, evP, evHS, toP, vis, PV.loose, noOwn, noOwnL, refs, refsL, fresh, al, alL, fr_none, fr_bool, fr_int, fr_str, fr_nilp, fr_nils, fr_nilf, fr_sl, fr_sp, fr_ref, fr_view, fr_box, fr_own, fr_agg, fr_tup, fr_fn, setH, pvBin, intBin, fillH, fillP, PV.lok, cellsH, cells, HV.one, partsO, mkAgg, mkTup, allP, setCellsH, blkCells, partH, resHL, resH1, resT, tupHOf, slElems, bnd, idxOk, pvPeq, pvBeq, pvUn, mkOwn, rep, lendL, getElem?_len, getElem?_len0, set_len0, set_len, lim, part, norm1, slCells, h58, h1, h2]
    all_goals exact rfl
  by_cases h3 : b < 0
  · simp (config := { maxSteps := 4000000 }) [↓evP_call0, ↓evP_callv0, ↓oel_some, ↓oel_none, ↓bel_true, ↓bel_false, ↓hvel_true, ↓hvel_false, ↓exel_norm, ↓exel_ret, ↓exel_exit, ↓retel_norm, ↓retel_ret, oel_some, oel_none, bel_true, bel_false, hvel_true, hvel_false, exel_norm, exel_ret, exel_exit, retel_norm, retel_ret, fgtH_norm, fgtH_ret, fgtH_exit, blkel_norm, blkel_ret, blkel_exit, get_nil, get_cons, set_nil, set_cons, keep_nil, keep_cons, params_nil, params_cons, lookHG_t, lookHG_k, lookHG_f, alG, lookPG_t, lookPG_k, lookPG_f, wantsE_none, wantsE_some, wantB_bool, wantB_skip, stepsH_nil, stepsH_cons, stepH_eq, stepHL_eq, evHP_x, evHP_bm, evHP_snil, evHP_slc0, evHP_copy, evHC_skip, evHC_ret, evHC_exit, evHC_reg, evHC_regD, evHC_seq, evHC_cond, evHC_block, evHC_loop, HOp.temps, HOp.opds, XOp.opds, optO, tempsO, hland, land1, evHX, evHV, evHN, evP, evHS, toP, vis, PV.loose, noOwn, noOwnL, refs, refsL, fresh, al, alL, fr_none, fr_bool, fr_int, fr_str, fr_nilp, fr_nils, fr_nilf, fr_sl, fr_sp, fr_ref, fr_view, fr_box, fr_own, fr_agg, fr_tup, fr_fn, setH, pvBin, intBin, fillH, fillP, PV.lok, cellsH, cells, HV.one, partsO, mkAgg, mkTup, allP, setCellsH, blkCells, partH, resHL, resH1, resT, tupHOf, slElems, bnd, idxOk, pvPeq, pvBeq, pvUn, mkOwn, rep, lendL, getElem?_len, getElem?_len0, set_len0, set_len, lim, part, norm1, slCells, h58, h1, h2, h3]
    all_goals exact rfl
  by_cases h4 : 1048576 < b
  · simp (config := { maxSteps := 4000000 }) [↓evP_call0, ↓evP_callv0, ↓oel_some, ↓oel_none, ↓bel_true, ↓bel_false, ↓hvel_true, ↓hvel_false, ↓exel_norm, ↓exel_ret, ↓exel_exit, ↓retel_norm, ↓retel_ret, oel_some, oel_none, bel_true, bel_false, hvel_true, hvel_false, exel_norm, exel_ret, exel_exit, retel_norm, retel_ret, fgtH_norm, fgtH_ret, fgtH_exit, blkel_norm, blkel_ret, blkel_exit, get_nil, get_cons, set_nil, set_cons, keep_nil, keep_cons, params_nil, params_cons, lookHG_t, lookHG_k, lookHG_f, alG, lookPG_t, lookPG_k, lookPG_f, wantsE_none, wantsE_some, wantB_bool, wantB_skip, stepsH_nil, stepsH_cons, stepH_eq, stepHL_eq, evHP_x, evHP_bm, evHP_snil, evHP_slc0, evHP_copy, evHC_skip, evHC_ret, evHC_exit, evHC_reg, evHC_regD, evHC_seq, evHC_cond, evHC_block, evHC_loop, HOp.temps, HOp.opds, XOp.opds, optO, tempsO, hland, land1, evHX, evHV, evHN, evP, evHS, toP, vis, PV.loose, noOwn, noOwnL, refs, refsL, fresh, al, alL, fr_none, fr_bool, fr_int, fr_str, fr_nilp, fr_nils, fr_nilf, fr_sl, fr_sp, fr_ref, fr_view, fr_box, fr_own, fr_agg, fr_tup, fr_fn, setH, pvBin, intBin, fillH, fillP, PV.lok, cellsH, cells, HV.one, partsO, mkAgg, mkTup, allP, setCellsH, blkCells, partH, resHL, resH1, resT, tupHOf, slElems, bnd, idxOk, pvPeq, pvBeq, pvUn, mkOwn, rep, lendL, getElem?_len, getElem?_len0, set_len0, set_len, lim, part, norm1, slCells, h58, h1, h2, h3, h4]
    all_goals exact rfl
  omega
end Go.Ab

namespace Go.Ab
open Go
set_option linter.unusedVariables false
set_option linter.unusedSimpArgs false
set_option maxRecDepth 10000
set_option maxHeartbeats 4000000
variable {K : HCalls}

theorem ans11 (h11k : ∀ ws st, K 11 ws st = .none) (h57k : ∀ ws st, K 57 ws st = .none) (h58k : ∀ ws st, K 58 ws st = .none) (h64k : ∀ ws st, K 64 ws st = .none) (h111k : ∀ ws st, K 111 ws st = .none)
    (hw : ∀ st, K 56 [] st = some (.p (.bool true), st)) (n : Nat) (a b : Int) :
    ∃ st', evHF C0 K TH (n + 100) 11 [.p (.int .i64 a), .p (.int .i64 b)] [] = some (.p (.bool true), st') := by
  have ew : ∀ n st, evHF C0 K TH (n + 1) 56 [] st = some (.p (.bool true), st) := fun n st => by rw [evHF_eq, hw, oel_some]
  by_cases h2 : 5000 < a ∧ a ≤ 1048576
  · obtain ⟨h2, h3⟩ := h2
    apply Exists.intro
    refine evHF_in (n := n + 99) h11k (x := h11) rfl rfl ?_
    simp (config := { maxSteps := 4000000 }) [↓evP_call0, ↓evP_callv0, ↓oel_some, ↓oel_none, ↓bel_true, ↓bel_false, ↓hvel_true, ↓hvel_false, ↓exel_norm, ↓exel_ret, ↓exel_exit, ↓retel_norm, ↓retel_ret, oel_some, oel_none, bel_true, bel_false, hvel_true, hvel_false, exel_norm, exel_ret, exel_exit, retel_norm, retel_ret, fgtH_norm, fgtH_ret, fgtH_exit, blkel_norm, blkel_ret, blkel_exit, get_nil, get_cons, set_nil, set_cons, keep_nil, keep_cons, params_nil, params_cons, lookHG_t, lookHG_k, lookHG_f, alG, lookPG_t, lookPG_k, lookPG_f, wantsE_none, wantsE_some, wantB_bool, wantB_skip, stepsH_nil, stepsH_cons, stepH_eq, stepHL_eq, evHP_x, evHP_bm, evHP_snil, evHP_slc0, evHP_copy, evHC_skip, evHC_ret, evHC_exit, evHC_reg, evHC_regD, evHC_seq, evHC_cond, evHC_block, evHC_loop, HOp.temps, HOp.opds, XOp.opds, optO, tempsO, hland, land1, evHX, evHV, evHN, evP, evHS, toP, vis, PV.loose, noOwn, noOwnL, refs, refsL, fresh, al, alL, fr_none, fr_bool, fr_int, fr_str, fr_nilp, fr_nils, fr_nilf, fr_sl, fr_sp, fr_ref, fr_view, fr_box, fr_own, fr_agg, fr_tup, fr_fn, setH, pvBin, intBin, fillH, fillP, PV.lok, cellsH, cells, HV.one, partsO, mkAgg, mkTup, allP, setCellsH, blkCells, partH, resHL, resH1, resT, tupHOf, slElems, bnd, idxOk, pvPeq, pvBeq, pvUn, mkOwn, rep, lendL, getElem?_len, getElem?_len0, set_len0, set_len, lim, part, norm1, slCells, h11, h2, h3, ew]
    all_goals exact rfl
  by_cases h4 : 5000 < b ∧ b ≤ 1048576
  · obtain ⟨h4, h5⟩ := h4
    apply Exists.intro
    refine evHF_in (n := n + 99) h11k (x := h11) rfl rfl ?_
    by_cases h1 : 5000 < a
    · have h3 : ¬ a ≤ 1048576 := by omega
      simp (config := { maxSteps := 4000000 }) [↓evP_call0, ↓evP_callv0, ↓oel_some, ↓oel_none, ↓bel_true, ↓bel_false, ↓hvel_true, ↓hvel_false, ↓exel_norm, ↓exel_ret, ↓exel_exit, ↓retel_norm, ↓retel_ret, oel_some, oel_none, bel_true, bel_false, hvel_true, hvel_false, exel_norm, exel_ret, exel_exit, retel_norm, retel_ret, fgtH_norm, fgtH_ret, fgtH_exit, blkel_norm, blkel_ret, blkel_exit, get_nil, get_cons, set_nil, set_cons, keep_nil, keep_cons, params_nil, params_cons, lookHG_t, lookHG_k, lookHG_f, alG, lookPG_t, lookPG_k, lookPG_f, wantsE_none, wantsE_some, wantB_bool, wantB_skip, stepsH_nil, stepsH_cons, stepH_eq, stepHL_eq, evHP_x, evHP_bm, evHP_snil, evHP_slc0, evHP_copy, evHC_skip, evHC_ret, evHC_exit, evHC_reg, evHC_regD, evHC_seq, evHC_cond, evHC_block, evHC_loop, HOp.temps, HOp.opds, XOp.opds, optO, tempsO, hland, land1, evHX, evHV, evHN, evP, evHS, toP, vis, PV.loose, noOwn, noOwnL, refs, refsL, fresh, al, alL, fr_none, fr_bool, fr_int, fr_str, fr_nilp, fr_nils, fr_nilf, fr_sl, fr_sp, fr_ref, fr_view, fr_box, fr_own, fr_agg, fr_tup, fr_fn, setH, pvBin, intBin, fillH, fillP, PV.lok, cellsH, cells, HV.one, partsO, mkAgg, mkTup, allP, setCellsH, blkCells, partH, resHL, resH1, resT, tupHOf, slElems, bnd, idxOk, pvPeq, pvBeq, pvUn, mkOwn, rep, lendL, getElem?_len, getElem?_len0, set_len0, set_len, lim, part, norm1, slCells, h11, h1, h3, h4, h5, ew]
      all_goals exact rfl
    · simp (config := { maxSteps := 4000000 }) [↓evP_call0, ↓evP_callv0, ↓oel_some, ↓oel_none, ↓bel_true, ↓bel_false, ↓hvel_true, ↓hvel_false, ↓exel_norm, ↓exel_ret, ↓exel_exit, ↓retel_norm, ↓retel_ret, oel_some, oel_none, bel_true, bel_false, hvel_true, hvel_false, exel_norm, exel_ret, exel_exit, retel_norm, retel_ret, fgtH_norm, fgtH_ret, fgtH_exit, blkel_norm, blkel_ret, blkel_exit, get_nil, get_cons, set_nil, set_cons, keep_nil, keep_cons, params_nil, params_cons, lookHG_t, lookHG_k, lookHG_f, alG, lookPG_t, lookPG_k, lookPG_f, wantsE_none, wantsE_some, wantB_bool, wantB_skip, stepsH_nil, stepsH_cons, stepH_eq, stepHL_eq, evHP_x, evHP_bm, evHP_snil, evHP_slc0, evHP_copy, evHC_skip, evHC_ret, evHC_exit, evHC_reg, evHC_regD, evHC_seq, evHC_cond, evHC_block, evHC_loop, HOp.temps, HOp.opds, XOp.opds, optO, tempsO, hland, land1, evHX, evHV, evHN, evP, evHS, toP, vis, PV.loose, noOwn, noOwnL, refs, refsL, fresh, al, alL, fr_none, fr_bool, fr_int, fr_str, fr_nilp, fr_nils, fr_nilf, fr_sl, fr_sp, fr_ref, fr_view, fr_box, fr_own, fr_agg, fr_tup, fr_fn, setH, pvBin, intBin, fillH, fillP, PV.lok, cellsH, cells, HV.one, partsO, mkAgg, mkTup, allP, setCellsH, blkCells, partH, resHL, resH1, resT, tupHOf, slElems, bnd, idxOk, pvPeq, pvBeq, pvUn, mkOwn, rep, lendL, getElem?_len, getElem?_len0, set_len0, set_len, lim, part, norm1, slCells, h11, h1, h4, h5, ew]
      all_goals exact rfl
  by_cases h : a < 0 ∨ 1048576 < a ∨ b < 0 ∨ 1048576 < b
  · have e57 := fun n st => bad57 h57k n a b st h
    obtain ⟨g, e58⟩ := bad58 h58k (K := K) (a := a) (b := b) (st := []) (h := h)
    apply Exists.intro
    refine evHF_in (n := n + 99) h11k (x := h11) rfl rfl ?_
    by_cases h1 : 5000 < a
    · have h3 : ¬ a ≤ 1048576 := by omega
      by_cases h5 : 5000 < b
      · have h6 : ¬ b ≤ 1048576 := by omega
        simp (config := { maxSteps := 4000000 }) [↓evP_call0, ↓evP_callv0, ↓oel_some, ↓oel_none, ↓bel_true, ↓bel_false, ↓hvel_true, ↓hvel_false, ↓exel_norm, ↓exel_ret, ↓exel_exit, ↓retel_norm, ↓retel_ret, oel_some, oel_none, bel_true, bel_false, hvel_true, hvel_false, exel_norm, exel_ret, exel_exit, retel_norm, retel_ret, fgtH_norm, fgtH_ret, fgtH_exit, blkel_norm, blkel_ret, blkel_exit, get_nil, get_cons, set_nil, set_cons, keep_nil, keep_cons, params_nil, params_cons, lookHG_t, lookHG_k, lookHG_f, alG, lookPG_t, lookPG_k, lookPG_f, wantsE_none, wantsE_some, wantB_bool, wantB_skip, stepsH_nil, stepsH_cons, stepH_eq, stepHL_eq, evHP_x, evHP_bm, evHP_snil, evHP_slc0, evHP_copy, evHC_skip, evHC_ret, evHC_exit, evHC_reg, evHC_regD, evHC_seq, evHC_cond, evHC_block, evHC_loop, HOp.temps, HOp.opds, XOp.opds, optO, tempsO, hland, land1, evHX, evHV, evHN, evP, evHS, toP, vis, PV.loose, noOwn, noOwnL, refs, refsL, fresh, al, alL, fr_none, fr_bool, fr_int, fr_str, fr_nilp, fr_nils, fr_nilf, fr_sl, fr_sp, fr_ref, fr_view, fr_box, fr_own, fr_agg, fr_tup, fr_fn, setH, pvBin, intBin, fillH, fillP, PV.lok, cellsH, cells, HV.one, partsO, mkAgg, mkTup, allP, setCellsH, blkCells, partH, resHL, resH1, resT, tupHOf, slElems, bnd, idxOk, pvPeq, pvBeq, pvUn, mkOwn, rep, lendL, getElem?_len, getElem?_len0, set_len0, set_len, lim, part, norm1, slCells, h11, h1, h3, h5, h6, e57, e58, ew]
        all_goals exact rfl
      · simp (config := { maxSteps := 4000000 }) [↓evP_call0, ↓evP_callv0, ↓oel_some, ↓oel_none, ↓bel_true, ↓bel_false, ↓hvel_true, ↓hvel_false, ↓exel_norm, ↓exel_ret, ↓exel_exit, ↓retel_norm, ↓retel_ret, oel_some, oel_none, bel_true, bel_false, hvel_true, hvel_false, exel_norm, exel_ret, exel_exit, retel_norm, retel_ret, fgtH_norm, fgtH_ret, fgtH_exit, blkel_norm, blkel_ret, blkel_exit, get_nil, get_cons, set_nil, set_cons, keep_nil, keep_cons, params_nil, params_cons, lookHG_t, lookHG_k, lookHG_f, alG, lookPG_t, lookPG_k, lookPG_f, wantsE_none, wantsE_some, wantB_bool, wantB_skip, stepsH_nil, stepsH_cons, stepH_eq, stepHL_eq, evHP_x, evHP_bm, evHP_snil, evHP_slc0, evHP_copy, evHC_skip, evHC_ret, evHC_exit, evHC_reg, evHC_regD, evHC_seq, evHC_cond, evHC_block, evHC_loop, HOp.temps, HOp.opds, XOp.opds, optO, tempsO, hland, land1, evHX, evHV, evHN, evP, evHS, toP, vis, PV.loose, noOwn, noOwnL, refs, refsL, fresh, al, alL, fr_none, fr_bool, fr_int, fr_str, fr_nilp, fr_nils, fr_nilf, fr_sl, fr_sp, fr_ref, fr_view, fr_box, fr_own, fr_agg, fr_tup, fr_fn, setH, pvBin, intBin, fillH, fillP, PV.lok, cellsH, cells, HV.one, partsO, mkAgg, mkTup, allP, setCellsH, blkCells, partH, resHL, resH1, resT, tupHOf, slElems, bnd, idxOk, pvPeq, pvBeq, pvUn, mkOwn, rep, lendL, getElem?_len, getElem?_len0, set_len0, set_len, lim, part, norm1, slCells, h11, h1, h3, h5, e57, e58, ew]
        all_goals exact rfl
    · by_cases h5 : 5000 < b
      · have h6 : ¬ b ≤ 1048576 := by omega
        simp (config := { maxSteps := 4000000 }) [↓evP_call0, ↓evP_callv0, ↓oel_some, ↓oel_none, ↓bel_true, ↓bel_false, ↓hvel_true, ↓hvel_false, ↓exel_norm, ↓exel_ret, ↓exel_exit, ↓retel_norm, ↓retel_ret, oel_some, oel_none, bel_true, bel_false, hvel_true, hvel_false, exel_norm, exel_ret, exel_exit, retel_norm, retel_ret, fgtH_norm, fgtH_ret, fgtH_exit, blkel_norm, blkel_ret, blkel_exit, get_nil, get_cons, set_nil, set_cons, keep_nil, keep_cons, params_nil, params_cons, lookHG_t, lookHG_k, lookHG_f, alG, lookPG_t, lookPG_k, lookPG_f, wantsE_none, wantsE_some, wantB_bool, wantB_skip, stepsH_nil, stepsH_cons, stepH_eq, stepHL_eq, evHP_x, evHP_bm, evHP_snil, evHP_slc0, evHP_copy, evHC_skip, evHC_ret, evHC_exit, evHC_reg, evHC_regD, evHC_seq, evHC_cond, evHC_block, evHC_loop, HOp.temps, HOp.opds, XOp.opds, optO, tempsO, hland, land1, evHX, evHV, evHN, evP, evHS, toP, vis, PV.loose, noOwn, noOwnL, refs, refsL, fresh, al, alL, fr_none, fr_bool, fr_int, fr_str, fr_nilp, fr_nils, fr_nilf, fr_sl, fr_sp, fr_ref, fr_view, fr_box, fr_own, fr_agg, fr_tup, fr_fn, setH, pvBin, intBin, fillH, fillP, PV.lok, cellsH, cells, HV.one, partsO, mkAgg, mkTup, allP, setCellsH, blkCells, partH, resHL, resH1, resT, tupHOf, slElems, bnd, idxOk, pvPeq, pvBeq, pvUn, mkOwn, rep, lendL, getElem?_len, getElem?_len0, set_len0, set_len, lim, part, norm1, slCells, h11, h1, h5, h6, e57, e58, ew]
        all_goals exact rfl
      · simp (config := { maxSteps := 4000000 }) [↓evP_call0, ↓evP_callv0, ↓oel_some, ↓oel_none, ↓bel_true, ↓bel_false, ↓hvel_true, ↓hvel_false, ↓exel_norm, ↓exel_ret, ↓exel_exit, ↓retel_norm, ↓retel_ret, oel_some, oel_none, bel_true, bel_false, hvel_true, hvel_false, exel_norm, exel_ret, exel_exit, retel_norm, retel_ret, fgtH_norm, fgtH_ret, fgtH_exit, blkel_norm, blkel_ret, blkel_exit, get_nil, get_cons, set_nil, set_cons, keep_nil, keep_cons, params_nil, params_cons, lookHG_t, lookHG_k, lookHG_f, alG, lookPG_t, lookPG_k, lookPG_f, wantsE_none, wantsE_some, wantB_bool, wantB_skip, stepsH_nil, stepsH_cons, stepH_eq, stepHL_eq, evHP_x, evHP_bm, evHP_snil, evHP_slc0, evHP_copy, evHC_skip, evHC_ret, evHC_exit, evHC_reg, evHC_regD, evHC_seq, evHC_cond, evHC_block, evHC_loop, HOp.temps, HOp.opds, XOp.opds, optO, tempsO, hland, land1, evHX, evHV, evHN, evP, evHS, toP, vis, PV.loose, noOwn, noOwnL, refs, refsL, fresh, al, alL, fr_none, fr_bool, fr_int, fr_str, fr_nilp, fr_nils, fr_nilf, fr_sl, fr_sp, fr_ref, fr_view, fr_box, fr_own, fr_agg, fr_tup, fr_fn, setH, pvBin, intBin, fillH, fillP, PV.lok, cellsH, cells, HV.one, partsO, mkAgg, mkTup, allP, setCellsH, blkCells, partH, resHL, resH1, resT, tupHOf, slElems, bnd, idxOk, pvPeq, pvBeq, pvUn, mkOwn, rep, lendL, getElem?_len, getElem?_len0, set_len0, set_len, lim, part, norm1, slCells, h11, h1, h5, e57, e58, ew]
        all_goals exact rfl
  · obtain ⟨i, g, e57⟩ := ans57 h57k h64k (K := K) (a := a) (b := b) (st := []) (h := by omega)
    obtain ⟨g2, e58⟩ := ans58 h58k h111k (K := K) (a := a) (b := b) (st := g) (h := by omega)
    apply Exists.intro
    refine evHF_in (n := n + 99) h11k (x := h11) rfl rfl ?_
    have h1 : ¬ 5000 < a := by omega
    have h5 : ¬ 5000 < b := by omega
    simp (config := { maxSteps := 4000000 }) [↓evP_call0, ↓evP_callv0, ↓oel_some, ↓oel_none, ↓bel_true, ↓bel_false, ↓hvel_true, ↓hvel_false, ↓exel_norm, ↓exel_ret, ↓exel_exit, ↓retel_norm, ↓retel_ret, oel_some, oel_none, bel_true, bel_false, hvel_true, hvel_false, exel_norm, exel_ret, exel_exit, retel_norm, retel_ret, fgtH_norm, fgtH_ret, fgtH_exit, blkel_norm, blkel_ret, blkel_exit, get_nil, get_cons, set_nil, set_cons, keep_nil, keep_cons, params_nil, params_cons, lookHG_t, lookHG_k, lookHG_f, alG, lookPG_t, lookPG_k, lookPG_f, wantsE_none, wantsE_some, wantB_bool, wantB_skip, stepsH_nil, stepsH_cons, stepH_eq, stepHL_eq, evHP_x, evHP_bm, evHP_snil, evHP_slc0, evHP_copy, evHC_skip, evHC_ret, evHC_exit, evHC_reg, evHC_regD, evHC_seq, evHC_cond, evHC_block, evHC_loop, HOp.temps, HOp.opds, XOp.opds, optO, tempsO, hland, land1, evHX, evHV, evHN, evP, evHS, toP, vis, PV.loose, noOwn, noOwnL, refs, refsL, fresh, al, alL, fr_none, fr_bool, fr_int, fr_str, fr_nilp, fr_nils, fr_nilf, fr_sl, fr_sp, fr_ref, fr_view, fr_box, fr_own, fr_agg, fr_tup, fr_fn, setH, pvBin, intBin, fillH, fillP, PV.lok, cellsH, cells, HV.one, partsO, mkAgg, mkTup, allP, setCellsH, blkCells, partH, resHL, resH1, resT, tupHOf, slElems, bnd, idxOk, pvPeq, pvBeq, pvUn, mkOwn, rep, lendL, getElem?_len, getElem?_len0, set_len0, set_len, lim, part, norm1, slCells, h11, h1, h5, e57, e58, heap27, ew]
    all_goals exact rfl
end Go.Ab

namespace Go.Ab
open Go
set_option linter.unusedVariables false
set_option maxRecDepth 100000

def isTrueH : Option (HV × HSt) → Bool
  | some (.p (.bool true), _) => true
  | _ => false
theorem isTrueH_some {r : Option (HV × HSt)} (h : isTrueH r = true) : ∃ st, r = some (.p (.bool true), st) := by
  unfold isTrueH at h
  split at h
  · exact ⟨_, rfl⟩
  · cases h
def K0 : HCalls := fun _ _ _ => Option.none
theorem K0_ok {P : Program} : HCallOk P K0 := fun _ _ _ _ _ h => by cases h
theorem w56 : isTrueH (evHF C0 K0 TH 300 56 [] []) = true := by kernel_rfl
def K11 : HCalls := fun f ws st => if f = 56 then sealed (evHF C0 K0 TH 300) f ws st else Option.none
theorem K11_56 (st : HSt) : K11 56 [] st = some (.p (.bool true), st) := by
  obtain ⟨st', h⟩ := isTrueH_some w56
  simp [K11, sealed, h, PV.flat, PV.flat1]
theorem K11_no {f : Nat} (h : f ≠ 56) (ws : List HV) (st : HSt) : K11 f ws st = Option.none := if_neg h
theorem K11_ok {P : Program} (hm : P.follows .mixedOrders = true) (hT : TOkH P TH) : HCallOk P K11 := by
  intro f ws st r st' h
  unfold K11 at h
  split at h
  · exact sealed_ok (evHF_sound hm C0_ok K0_ok hT 300) f ws st r st' h
  · cases h
end Go.Ab

/- printed -/
namespace Go.Ab
open Go
set_option maxRecDepth 100000
theorem toh11 : OkH1 Go.Proofs.Try.prog 11 h11 := ⟨Go.Proofs.Try.f11, _, hintsH h11.body, Go.Proofs.Try.func11, by kernel_rfl, rfl, by decide, by decide, by kernel_rfl, by kernel_rfl⟩
theorem toh18 : OkH1 Go.Proofs.Try.prog 18 h18 := ⟨Go.Proofs.Try.f18, _, hintsH h18.body, Go.Proofs.Try.func18, by kernel_rfl, rfl, by decide, by decide, by kernel_rfl, by kernel_rfl⟩
theorem toh22 : OkH1 Go.Proofs.Try.prog 22 h22 := ⟨Go.Proofs.Try.f22, _, hintsH h22.body, Go.Proofs.Try.func22, by kernel_rfl, rfl, by decide, by decide, by kernel_rfl, by kernel_rfl⟩
theorem toh24 : OkH1 Go.Proofs.Try.prog 24 h24 := ⟨Go.Proofs.Try.f24, _, hintsH h24.body, Go.Proofs.Try.func24, by kernel_rfl, rfl, by decide, by decide, by kernel_rfl, by kernel_rfl⟩
theorem toh27 : OkH1 Go.Proofs.Try.prog 27 h27 := ⟨Go.Proofs.Try.f27, _, hintsH h27.body, Go.Proofs.Try.func27, by kernel_rfl, rfl, by decide, by decide, by kernel_rfl, by kernel_rfl⟩
theorem toh29 : OkH1 Go.Proofs.Try.prog 29 h29 := ⟨Go.Proofs.Try.f29, _, hintsH h29.body, Go.Proofs.Try.func29, by kernel_rfl, rfl, by decide, by decide, by kernel_rfl, by kernel_rfl⟩
theorem toh52 : OkH1 Go.Proofs.Try.prog 52 h52 := ⟨Go.Proofs.Try.f52, _, hintsH h52.body, Go.Proofs.Try.func52, by kernel_rfl, rfl, by decide, by decide, by kernel_rfl, by kernel_rfl⟩
theorem toh53 : OkH1 Go.Proofs.Try.prog 53 h53 := ⟨Go.Proofs.Try.f53, _, hintsH h53.body, Go.Proofs.Try.func53, by kernel_rfl, rfl, by decide, by decide, by kernel_rfl, by kernel_rfl⟩
theorem toh56 : OkH1 Go.Proofs.Try.prog 56 h56 := ⟨Go.Proofs.Try.f56, _, hintsH h56.body, Go.Proofs.Try.func56, by kernel_rfl, rfl, by decide, by decide, by kernel_rfl, by kernel_rfl⟩
theorem toh57 : OkH1 Go.Proofs.Try.prog 57 h57 := ⟨Go.Proofs.Try.f57, _, hintsH h57.body, Go.Proofs.Try.func57, by kernel_rfl, rfl, by decide, by decide, by kernel_rfl, by kernel_rfl⟩
theorem toh58 : OkH1 Go.Proofs.Try.prog 58 h58 := ⟨Go.Proofs.Try.f58, _, hintsH h58.body, Go.Proofs.Try.func58, by kernel_rfl, rfl, by decide, by decide, by kernel_rfl, by kernel_rfl⟩
theorem toh60 : OkH1 Go.Proofs.Try.prog 60 h60 := ⟨Go.Proofs.Try.f60, _, hintsH h60.body, Go.Proofs.Try.func60, by kernel_rfl, rfl, by decide, by decide, by kernel_rfl, by kernel_rfl⟩
theorem toh64 : OkH1 Go.Proofs.Try.prog 64 h64 := ⟨Go.Proofs.Try.f64, _, hintsH h64.body, Go.Proofs.Try.func64, by kernel_rfl, rfl, by decide, by decide, by kernel_rfl, by kernel_rfl⟩
theorem toh65 : OkH1 Go.Proofs.Try.prog 65 h65 := ⟨Go.Proofs.Try.f65, _, hintsH h65.body, Go.Proofs.Try.func65, by kernel_rfl, rfl, by decide, by decide, by kernel_rfl, by kernel_rfl⟩
theorem toh66 : OkH1 Go.Proofs.Try.prog 66 h66 := ⟨Go.Proofs.Try.f66, _, hintsH h66.body, Go.Proofs.Try.func66, by kernel_rfl, rfl, by decide, by decide, by kernel_rfl, by kernel_rfl⟩
theorem toh67 : OkH1 Go.Proofs.Try.prog 67 h67 := ⟨Go.Proofs.Try.f67, _, hintsH h67.body, Go.Proofs.Try.func67, by kernel_rfl, rfl, by decide, by decide, by kernel_rfl, by kernel_rfl⟩
theorem toh70 : OkH1 Go.Proofs.Try.prog 70 h70 := ⟨Go.Proofs.Try.f70, _, hintsH h70.body, Go.Proofs.Try.func70, by kernel_rfl, rfl, by decide, by decide, by kernel_rfl, by kernel_rfl⟩
theorem toh71 : OkH1 Go.Proofs.Try.prog 71 h71 := ⟨Go.Proofs.Try.f71, _, hintsH h71.body, Go.Proofs.Try.func71, by kernel_rfl, rfl, by decide, by decide, by kernel_rfl, by kernel_rfl⟩
theorem toh72 : OkH1 Go.Proofs.Try.prog 72 h72 := ⟨Go.Proofs.Try.f72, _, hintsH h72.body, Go.Proofs.Try.func72, by kernel_rfl, rfl, by decide, by decide, by kernel_rfl, by kernel_rfl⟩
theorem toh73 : OkH1 Go.Proofs.Try.prog 73 h73 := ⟨Go.Proofs.Try.f73, _, hintsH h73.body, Go.Proofs.Try.func73, by kernel_rfl, rfl, by decide, by decide, by kernel_rfl, by kernel_rfl⟩
theorem toh74 : OkH1 Go.Proofs.Try.prog 74 h74 := ⟨Go.Proofs.Try.f74, _, hintsH h74.body, Go.Proofs.Try.func74, by kernel_rfl, rfl, by decide, by decide, by kernel_rfl, by kernel_rfl⟩
theorem toh76 : OkH1 Go.Proofs.Try.prog 76 h76 := ⟨Go.Proofs.Try.f76, _, hintsH h76.body, Go.Proofs.Try.func76, by kernel_rfl, rfl, by decide, by decide, by kernel_rfl, by kernel_rfl⟩
theorem toh77 : OkH1 Go.Proofs.Try.prog 77 h77 := ⟨Go.Proofs.Try.f77, _, hintsH h77.body, Go.Proofs.Try.func77, by kernel_rfl, rfl, by decide, by decide, by kernel_rfl, by kernel_rfl⟩
theorem toh78 : OkH1 Go.Proofs.Try.prog 78 h78 := ⟨Go.Proofs.Try.f78, _, hintsH h78.body, Go.Proofs.Try.func78, by kernel_rfl, rfl, by decide, by decide, by kernel_rfl, by kernel_rfl⟩
theorem toh79 : OkH1 Go.Proofs.Try.prog 79 h79 := ⟨Go.Proofs.Try.f79, _, hintsH h79.body, Go.Proofs.Try.func79, by kernel_rfl, rfl, by decide, by decide, by kernel_rfl, by kernel_rfl⟩
theorem toh80 : OkH1 Go.Proofs.Try.prog 80 h80 := ⟨Go.Proofs.Try.f80, _, hintsH h80.body, Go.Proofs.Try.func80, by kernel_rfl, rfl, by decide, by decide, by kernel_rfl, by kernel_rfl⟩
theorem toh81 : OkH1 Go.Proofs.Try.prog 81 h81 := ⟨Go.Proofs.Try.f81, _, hintsH h81.body, Go.Proofs.Try.func81, by kernel_rfl, rfl, by decide, by decide, by kernel_rfl, by kernel_rfl⟩
theorem toh97 : OkH1 Go.Proofs.Try.prog 97 h97 := ⟨Go.Proofs.Try.f97, _, hintsH h97.body, Go.Proofs.Try.func97, by kernel_rfl, rfl, by decide, by decide, by kernel_rfl, by kernel_rfl⟩
theorem toh98 : OkH1 Go.Proofs.Try.prog 98 h98 := ⟨Go.Proofs.Try.f98, _, hintsH h98.body, Go.Proofs.Try.func98, by kernel_rfl, rfl, by decide, by decide, by kernel_rfl, by kernel_rfl⟩
theorem toh105 : OkH1 Go.Proofs.Try.prog 105 h105 := ⟨Go.Proofs.Try.f105, _, hintsH h105.body, Go.Proofs.Try.func105, by kernel_rfl, rfl, by decide, by decide, by kernel_rfl, by kernel_rfl⟩
theorem toh106 : OkH1 Go.Proofs.Try.prog 106 h106 := ⟨Go.Proofs.Try.f106, _, hintsH h106.body, Go.Proofs.Try.func106, by kernel_rfl, rfl, by decide, by decide, by kernel_rfl, by kernel_rfl⟩
theorem toh107 : OkH1 Go.Proofs.Try.prog 107 h107 := ⟨Go.Proofs.Try.f107, _, hintsH h107.body, Go.Proofs.Try.func107, by kernel_rfl, rfl, by decide, by decide, by kernel_rfl, by kernel_rfl⟩
theorem toh108 : OkH1 Go.Proofs.Try.prog 108 h108 := ⟨Go.Proofs.Try.f108, _, hintsH h108.body, Go.Proofs.Try.func108, by kernel_rfl, rfl, by decide, by decide, by kernel_rfl, by kernel_rfl⟩
theorem toh109 : OkH1 Go.Proofs.Try.prog 109 h109 := ⟨Go.Proofs.Try.f109, _, hintsH h109.body, Go.Proofs.Try.func109, by kernel_rfl, rfl, by decide, by decide, by kernel_rfl, by kernel_rfl⟩
theorem toh110 : OkH1 Go.Proofs.Try.prog 110 h110 := ⟨Go.Proofs.Try.f110, _, hintsH h110.body, Go.Proofs.Try.func110, by kernel_rfl, rfl, by decide, by decide, by kernel_rfl, by kernel_rfl⟩
theorem toh111 : OkH1 Go.Proofs.Try.prog 111 h111 := ⟨Go.Proofs.Try.f111, _, hintsH h111.body, Go.Proofs.Try.func111, by kernel_rfl, rfl, by decide, by decide, by kernel_rfl, by kernel_rfl⟩
theorem toh113 : OkH1 Go.Proofs.Try.prog 113 h113 := ⟨Go.Proofs.Try.f113, _, hintsH h113.body, Go.Proofs.Try.func113, by kernel_rfl, rfl, by decide, by decide, by kernel_rfl, by kernel_rfl⟩
theorem toh115 : OkH1 Go.Proofs.Try.prog 115 h115 := ⟨Go.Proofs.Try.f115, _, hintsH h115.body, Go.Proofs.Try.func115, by kernel_rfl, rfl, by decide, by decide, by kernel_rfl, by kernel_rfl⟩
theorem toh116 : OkH1 Go.Proofs.Try.prog 116 h116 := ⟨Go.Proofs.Try.f116, _, hintsH h116.body, Go.Proofs.Try.func116, by kernel_rfl, rfl, by decide, by decide, by kernel_rfl, by kernel_rfl⟩
theorem toh120 : OkH1 Go.Proofs.Try.prog 120 h120 := ⟨Go.Proofs.Try.f120, _, hintsH h120.body, Go.Proofs.Try.func120, by kernel_rfl, rfl, by decide, by decide, by kernel_rfl, by kernel_rfl⟩
theorem toh126 : OkH1 Go.Proofs.Try.prog 126 h126 := ⟨Go.Proofs.Try.f126, _, hintsH h126.body, Go.Proofs.Try.func126, by kernel_rfl, rfl, by decide, by decide, by kernel_rfl, by kernel_rfl⟩
theorem toh127 : OkH1 Go.Proofs.Try.prog 127 h127 := ⟨Go.Proofs.Try.f127, _, hintsH h127.body, Go.Proofs.Try.func127, by kernel_rfl, rfl, by decide, by decide, by kernel_rfl, by kernel_rfl⟩
theorem toh128 : OkH1 Go.Proofs.Try.prog 128 h128 := ⟨Go.Proofs.Try.f128, _, hintsH h128.body, Go.Proofs.Try.func128, by kernel_rfl, rfl, by decide, by decide, by kernel_rfl, by kernel_rfl⟩
theorem toh129 : OkH1 Go.Proofs.Try.prog 129 h129 := ⟨Go.Proofs.Try.f129, _, hintsH h129.body, Go.Proofs.Try.func129, by kernel_rfl, rfl, by decide, by decide, by kernel_rfl, by kernel_rfl⟩
theorem toh133 : OkH1 Go.Proofs.Try.prog 133 h133 := ⟨Go.Proofs.Try.f133, _, hintsH h133.body, Go.Proofs.Try.func133, by kernel_rfl, rfl, by decide, by decide, by kernel_rfl, by kernel_rfl⟩
theorem toh134 : OkH1 Go.Proofs.Try.prog 134 h134 := ⟨Go.Proofs.Try.f134, _, hintsH h134.body, Go.Proofs.Try.func134, by kernel_rfl, rfl, by decide, by decide, by kernel_rfl, by kernel_rfl⟩
theorem toh135 : OkH1 Go.Proofs.Try.prog 135 h135 := ⟨Go.Proofs.Try.f135, _, hintsH h135.body, Go.Proofs.Try.func135, by kernel_rfl, rfl, by decide, by decide, by kernel_rfl, by kernel_rfl⟩
theorem toh136 : OkH1 Go.Proofs.Try.prog 136 h136 := ⟨Go.Proofs.Try.f136, _, hintsH h136.body, Go.Proofs.Try.func136, by kernel_rfl, rfl, by decide, by decide, by kernel_rfl, by kernel_rfl⟩
theorem toh138 : OkH1 Go.Proofs.Try.prog 138 h138 := ⟨Go.Proofs.Try.f138, _, hintsH h138.body, Go.Proofs.Try.func138, by kernel_rfl, rfl, by decide, by decide, by kernel_rfl, by kernel_rfl⟩
theorem toh139 : OkH1 Go.Proofs.Try.prog 139 h139 := ⟨Go.Proofs.Try.f139, _, hintsH h139.body, Go.Proofs.Try.func139, by kernel_rfl, rfl, by decide, by decide, by kernel_rfl, by kernel_rfl⟩
theorem toh140 : OkH1 Go.Proofs.Try.prog 140 h140 := ⟨Go.Proofs.Try.f140, _, hintsH h140.body, Go.Proofs.Try.func140, by kernel_rfl, rfl, by decide, by decide, by kernel_rfl, by kernel_rfl⟩
theorem toh141 : OkH1 Go.Proofs.Try.prog 141 h141 := ⟨Go.Proofs.Try.f141, _, hintsH h141.body, Go.Proofs.Try.func141, by kernel_rfl, rfl, by decide, by decide, by kernel_rfl, by kernel_rfl⟩
theorem toh142 : OkH1 Go.Proofs.Try.prog 142 h142 := ⟨Go.Proofs.Try.f142, _, hintsH h142.body, Go.Proofs.Try.func142, by kernel_rfl, rfl, by decide, by decide, by kernel_rfl, by kernel_rfl⟩
theorem toh143 : OkH1 Go.Proofs.Try.prog 143 h143 := ⟨Go.Proofs.Try.f143, _, hintsH h143.body, Go.Proofs.Try.func143, by kernel_rfl, rfl, by decide, by decide, by kernel_rfl, by kernel_rfl⟩
theorem toh144 : OkH1 Go.Proofs.Try.prog 144 h144 := ⟨Go.Proofs.Try.f144, _, hintsH h144.body, Go.Proofs.Try.func144, by kernel_rfl, rfl, by decide, by decide, by kernel_rfl, by kernel_rfl⟩
theorem toh145 : OkH1 Go.Proofs.Try.prog 145 h145 := ⟨Go.Proofs.Try.f145, _, hintsH h145.body, Go.Proofs.Try.func145, by kernel_rfl, rfl, by decide, by decide, by kernel_rfl, by kernel_rfl⟩
theorem toh146 : OkH1 Go.Proofs.Try.prog 146 h146 := ⟨Go.Proofs.Try.f146, _, hintsH h146.body, Go.Proofs.Try.func146, by kernel_rfl, rfl, by decide, by decide, by kernel_rfl, by kernel_rfl⟩
theorem toh147 : OkH1 Go.Proofs.Try.prog 147 h147 := ⟨Go.Proofs.Try.f147, _, hintsH h147.body, Go.Proofs.Try.func147, by kernel_rfl, rfl, by decide, by decide, by kernel_rfl, by kernel_rfl⟩
theorem toh148 : OkH1 Go.Proofs.Try.prog 148 h148 := ⟨Go.Proofs.Try.f148, _, hintsH h148.body, Go.Proofs.Try.func148, by kernel_rfl, rfl, by decide, by decide, by kernel_rfl, by kernel_rfl⟩
theorem toh149 : OkH1 Go.Proofs.Try.prog 149 h149 := ⟨Go.Proofs.Try.f149, _, hintsH h149.body, Go.Proofs.Try.func149, by kernel_rfl, rfl, by decide, by decide, by kernel_rfl, by kernel_rfl⟩
theorem toh150 : OkH1 Go.Proofs.Try.prog 150 h150 := ⟨Go.Proofs.Try.f150, _, hintsH h150.body, Go.Proofs.Try.func150, by kernel_rfl, rfl, by decide, by decide, by kernel_rfl, by kernel_rfl⟩
theorem toh151 : OkH1 Go.Proofs.Try.prog 151 h151 := ⟨Go.Proofs.Try.f151, _, hintsH h151.body, Go.Proofs.Try.func151, by kernel_rfl, rfl, by decide, by decide, by kernel_rfl, by kernel_rfl⟩
theorem toh152 : OkH1 Go.Proofs.Try.prog 152 h152 := ⟨Go.Proofs.Try.f152, _, hintsH h152.body, Go.Proofs.Try.func152, by kernel_rfl, rfl, by decide, by decide, by kernel_rfl, by kernel_rfl⟩
theorem toh153 : OkH1 Go.Proofs.Try.prog 153 h153 := ⟨Go.Proofs.Try.f153, _, hintsH h153.body, Go.Proofs.Try.func153, by kernel_rfl, rfl, by decide, by decide, by kernel_rfl, by kernel_rfl⟩
theorem toh154 : OkH1 Go.Proofs.Try.prog 154 h154 := ⟨Go.Proofs.Try.f154, _, hintsH h154.body, Go.Proofs.Try.func154, by kernel_rfl, rfl, by decide, by decide, by kernel_rfl, by kernel_rfl⟩
theorem tokTH : TOkH Go.Proofs.Try.prog TH := tok_of (l := TL) ⟨toh11, toh18, toh22, toh24, toh27, toh29, toh52, toh53, toh56, toh57, toh58, toh60, toh64, toh65, toh66, toh67, toh70, toh71, toh72, toh73, toh74, toh76, toh77, toh78, toh79, toh80, toh81, toh97, toh98, toh105, toh106, toh107, toh108, toh109, toh110, toh111, toh113, toh115, toh116, toh120, toh126, toh127, toh128, toh129, toh133, toh134, toh135, toh136, toh138, toh139, toh140, toh141, toh142, toh143, toh144, toh145, toh146, toh147, toh148, toh149, toh150, toh151, toh152, toh153, toh154, trivial⟩
end Go.Ab
