/-
  Printed by gen.py.
-/
import Derived.Test.YtijedejhcgeocaaF
import Derived.Test.YtijedejhcgeocaaE
import Derived.Test.YtijedejhcgeocaaC
namespace Go.Ab
open Go
set_option linter.unusedVariables false
set_option linter.unusedSimpArgs false
set_option maxRecDepth 100000
set_option maxHeartbeats 4000000
theorem shape_Check_j1_ok (p0 : Shape) : evX (evI T) x97_1 [(1, .box [.int .i64 p0.Slots, .int .i64 p0.Mask])] = some (.norm, [(23, .bool (((decide (p0.Slots < 0)) || (((decide (16 < p0.Slots)) || (((decide (p0.Mask < 0)) || (decide ((IntKind.wrap .i64 (1 * 2 ^ (min p0.Slots.toNat 64))) ≤ p0.Mask)))))))))]) := by
  rcases Bool.eq_false_or_eq_true (decide (p0.Slots < 0)) with h1 | h1
  · refine' (w_regD ?_ ?_ (w_consD rfl ?_ ?_ ?_ (w_consD rfl ?_ ?_ ?_ (w_consD rfl ?_ ?_ ?_ (w_consD rfl ?_ ?_ ?_ (w_consD rfl ?_ ?_ ?_ (w_consD rfl ?_ ?_ ?_ (w_consD rfl ?_ ?_ ?_ (w_consD rfl ?_ ?_ ?_ (w_consD rfl ?_ ?_ ?_ (w_consD rfl ?_ ?_ ?_ (w_consD rfl ?_ ?_ ?_ (w_consD rfl ?_ ?_ ?_ (w_consD rfl ?_ ?_ ?_ (w_consD rfl ?_ ?_ ?_ (w_consD rfl ?_ ?_ ?_ (w_consD rfl ?_ ?_ ?_ (w_consD rfl ?_ ?_ ?_ (w_consD rfl ?_ ?_ ?_ (w_consD rfl ?_ ?_ ?_ (w_barD rfl rfl (w_cons ?_ (w_cons ?_ w_nil)))))))))))))))))))))) ?_)
    all_goals (first | (simp only [nz, rn, nzShape, h1, Int.reduceLT, Int.reduceEq, List.contains_cons, List.contains_nil, Option.map_some, Option.map_none, reduceIte, reduceCtorEq, Nat.reduceEqDiff, Nat.reduceLT, Nat.reduceBEq, Nat.reduceAdd, Nat.reduceMul, Nat.reduceLeDiff, Nat.reduceSub, Bool.false_eq_true]; try rfl) | skip)
  · rcases Bool.eq_false_or_eq_true (decide (16 < p0.Slots)) with h2 | h2
    · refine' (w_regD ?_ ?_ (w_consD rfl ?_ ?_ ?_ (w_consD rfl ?_ ?_ ?_ (w_consD rfl ?_ ?_ ?_ (w_consD rfl ?_ ?_ ?_ (w_consD rfl ?_ ?_ ?_ (w_consD rfl ?_ ?_ ?_ (w_consD rfl ?_ ?_ ?_ (w_consD rfl ?_ ?_ ?_ (w_consD rfl ?_ ?_ ?_ (w_consD rfl ?_ ?_ ?_ (w_consD rfl ?_ ?_ ?_ (w_consD rfl ?_ ?_ ?_ (w_consD rfl ?_ ?_ ?_ (w_consD rfl ?_ ?_ ?_ (w_consD rfl ?_ ?_ ?_ (w_consD rfl ?_ ?_ ?_ (w_consD rfl ?_ ?_ ?_ (w_consD rfl ?_ ?_ ?_ (w_consD rfl ?_ ?_ ?_ (w_barD rfl rfl (w_cons ?_ (w_cons ?_ w_nil)))))))))))))))))))))) ?_)
      all_goals (first | (simp only [nz, rn, nzShape, h1, h2, Int.reduceLT, Int.reduceEq, List.contains_cons, List.contains_nil, Option.map_some, Option.map_none, reduceIte, reduceCtorEq, Nat.reduceEqDiff, Nat.reduceLT, Nat.reduceBEq, Nat.reduceAdd, Nat.reduceMul, Nat.reduceLeDiff, Nat.reduceSub, Bool.false_eq_true]; try rfl) | skip)
    · rcases Bool.eq_false_or_eq_true (decide (p0.Mask < 0)) with h3 | h3
      · refine' (w_regD ?_ ?_ (w_consD rfl ?_ ?_ ?_ (w_consD rfl ?_ ?_ ?_ (w_consD rfl ?_ ?_ ?_ (w_consD rfl ?_ ?_ ?_ (w_consD rfl ?_ ?_ ?_ (w_consD rfl ?_ ?_ ?_ (w_consD rfl ?_ ?_ ?_ (w_consD rfl ?_ ?_ ?_ (w_consD rfl ?_ ?_ ?_ (w_consD rfl ?_ ?_ ?_ (w_consD rfl ?_ ?_ ?_ (w_consD rfl ?_ ?_ ?_ (w_consD rfl ?_ ?_ ?_ (w_consD rfl ?_ ?_ ?_ (w_consD rfl ?_ ?_ ?_ (w_consD rfl ?_ ?_ ?_ (w_consD rfl ?_ ?_ ?_ (w_consD rfl ?_ ?_ ?_ (w_consD rfl ?_ ?_ ?_ (w_barD rfl rfl (w_cons ?_ (w_cons ?_ w_nil)))))))))))))))))))))) ?_)
        all_goals (first | (simp only [nz, rn, nzShape, h1, h2, h3, Int.reduceLT, Int.reduceEq, List.contains_cons, List.contains_nil, Option.map_some, Option.map_none, reduceIte, reduceCtorEq, Nat.reduceEqDiff, Nat.reduceLT, Nat.reduceBEq, Nat.reduceAdd, Nat.reduceMul, Nat.reduceLeDiff, Nat.reduceSub, Bool.false_eq_true]; try rfl) | skip)
      · refine' (w_regD ?_ ?_ (w_consD rfl ?_ ?_ ?_ (w_consD rfl ?_ ?_ ?_ (w_consD rfl ?_ ?_ ?_ (w_consD rfl ?_ ?_ ?_ (w_consD rfl ?_ ?_ ?_ (w_consD rfl ?_ ?_ ?_ (w_consD rfl ?_ ?_ ?_ (w_consD rfl ?_ ?_ ?_ (w_consD rfl ?_ ?_ ?_ (w_consD rfl ?_ ?_ ?_ (w_consD rfl ?_ ?_ ?_ (w_consD rfl ?_ ?_ ?_ (w_consD rfl ?_ ?_ ?_ (w_consD rfl ?_ ?_ ?_ (w_consD rfl ?_ ?_ ?_ (w_consD rfl ?_ ?_ ?_ (w_consD rfl ?_ ?_ ?_ (w_consD rfl ?_ ?_ ?_ (w_consD rfl ?_ ?_ ?_ (w_barD rfl rfl (w_cons ?_ (w_cons ?_ w_nil)))))))))))))))))))))) ?_)
        all_goals (first | (simp only [nz, rn, nzShape, h1, h2, h3, of_decide_eq_false h1, Int.reduceLT, Int.reduceEq, List.contains_cons, List.contains_nil, Option.map_some, Option.map_none, reduceIte, reduceCtorEq, Nat.reduceEqDiff, Nat.reduceLT, Nat.reduceBEq, Nat.reduceAdd, Nat.reduceMul, Nat.reduceLeDiff, Nat.reduceSub, Bool.false_eq_true]; try rfl) | skip)
theorem shape_Check_ok (p0 : Shape) : Sim (shape_Check p0) fun r => evI T 97 [.agg [.int .i64 p0.Slots, .int .i64 p0.Mask]] = some (.int .i64 r, [.none]) := by
  unfold shape_Check
  have f5 := shape_Check_j1_ok p0
  refine sim_if (fun h6 => ?_) (fun h6 => ?_)
  · refine sim_some ?_
    refine evI_ret (x := x97) rfl rfl rfl ?_
    try simp only [nz, nzShape] at f5
    all_goals
      refine' (w_fn rfl rfl (w_seq (w_reg (w_cons ?_ (w_cons ?_ w_nil)) ?_) (w_go (w_seq (w_seq f5 (w_go (w_condt ?_ (w_seq (w_reg (w_cons ?_ w_nil) ?_) (w_go w_ret)) ?_))) w_gor))) ?_)
      all_goals (first | (simp only [x97, nz, rn, nzShape, h6, Int.reduceLT, Int.reduceEq, List.contains_cons, List.contains_nil, Option.map_some, Option.map_none, reduceIte, reduceCtorEq, Nat.reduceEqDiff, Nat.reduceLT, Nat.reduceBEq, Nat.reduceAdd, Nat.reduceMul, Nat.reduceLeDiff, Nat.reduceSub, Bool.false_eq_true]; try rfl) | skip)
  · refine sim_some ?_
    refine evI_ret (x := x97) rfl rfl rfl ?_
    try simp only [nz, nzShape] at f5
    all_goals
      refine' (w_fn rfl rfl (w_seq (w_reg (w_cons ?_ (w_cons ?_ w_nil)) ?_) (w_go (w_seq (w_seq f5 (w_go (w_condf ?_ w_skip ?_))) (w_go (w_seq (w_reg (w_cons ?_ w_nil) ?_) (w_go w_ret)))))) ?_)
      all_goals (first | (simp only [x97, nz, rn, nzShape, h6, Int.reduceLT, Int.reduceEq, List.contains_cons, List.contains_nil, Option.map_some, Option.map_none, reduceIte, reduceCtorEq, Nat.reduceEqDiff, Nat.reduceLT, Nat.reduceBEq, Nat.reduceAdd, Nat.reduceMul, Nat.reduceLeDiff, Nat.reduceSub, Bool.false_eq_true]; try rfl) | skip)
theorem shape_Check_okN (p0 : Shape) : Sim (shape_Check p0) fun r => ∀ ws, ws.map normA = [.agg [.int .i64 p0.Slots, .int .i64 p0.Mask]] → evI T 97 ws = some (.int .i64 r, [.none]) := fun r h => evI_okN (x := x97) rfl rfl rfl (shape_Check_ok p0 r h)
end Go.Ab

/-
  Printed by gen.py.
-/
namespace Go.Ab
open Go
set_option linter.unusedVariables false
set_option linter.unusedSimpArgs false
set_option maxRecDepth 100000
set_option maxHeartbeats 4000000
theorem shape_bits_ok : Sim (shape_bits) fun r => evI T 120 [] = some (.agg (r.flatMap (cint .i64)), []) := by
  unfold shape_bits
  refine sim_some ?_
  refine evI_ret (x := x120) rfl rfl rfl ?_
  refine' (w_fn rfl rfl (w_seq (w_reg (w_cons ?_ w_nil) ?_) (w_go (w_seq (w_reg (w_cons ?_ (w_cons ?_ w_nil)) ?_) (w_go w_ret)))) ?_)
  all_goals (first | (simp only [x120, nz, rn, Int.reduceLT, Int.reduceEq, List.contains_cons, List.contains_nil, Option.map_some, Option.map_none, reduceIte, reduceCtorEq, Nat.reduceEqDiff, Nat.reduceLT, Nat.reduceBEq, Nat.reduceAdd, Nat.reduceMul, Nat.reduceLeDiff, Nat.reduceSub, Bool.false_eq_true]; try rfl) | skip)
theorem shape_bits_okN : Sim (shape_bits) fun r => ∀ ws, ws.map normA = [] → evI T 120 ws = some (.agg (r.flatMap (cint .i64)), []) := fun r h => evI_okN (x := x120) rfl rfl rfl (shape_bits_ok r h)
end Go.Ab

/-
  Printed by gen.py.
-/
namespace Go.Ab
open Go
set_option linter.unusedVariables false
set_option linter.unusedSimpArgs false
set_option maxRecDepth 100000
set_option maxHeartbeats 4000000
theorem shape_Pointer_j1_ok (p0 : Shape) (p1 : Int) : Sim (shape_Pointer_j1 p0 p1) fun r => evX (evI T) x98_1 [(1, .int .i64 p1), (2, .box [.int .i64 p0.Slots, .int .i64 p0.Mask])] = some (.norm, [(4, .bool r)]) := by
  unfold shape_Pointer_j1
  refine sim_if (fun h1 => ?_) (fun h1 => ?_)
  · refine sim_if (fun h2 => ?_) (fun h2 => ?_)
    · refine sim_bind (fun r1 h3 => ?_)
      have f4 := shape_bits_okN  _ h3
      dsimp only at f4
      refine sim_bind (fun x_2 h5 => ?_)
      have f6 := ixa_ok h5
      have f6a := ixa_int (kd := .i64) h5
      have f6b := ixa_le h5
      refine sim_some ?_
      try simp only [nz, nzShape] at f4
      all_goals
        refine' (w_regD ?_ ?_ (w_consD rfl ?_ ?_ ?_ (w_consD rfl ?_ ?_ ?_ (w_consD rfl ?_ ?_ ?_ (w_consD rfl ?_ ?_ ?_ (w_consD rfl ?_ ?_ ?_ (w_consD rfl ?_ ?_ ?_ (w_consD rfl ?_ ?_ ?_ (w_consD rfl ?_ ?_ ?_ (w_consD rfl ?_ ?_ ?_ (w_consD rfl ?_ ?_ ?_ (w_consD rfl ?_ ?_ ?_ (w_consD rfl ?_ ?_ ?_ (w_consD rfl ?_ ?_ ?_ (w_consD rfl ?_ ?_ ?_ (w_barD rfl rfl (w_cons ?_ (w_cons ?_ (w_cons ?_ (w_cons ?_ w_nil))))))))))))))))))) ?_)
        all_goals (first | (simp only [nz, rn, nzShape, h1, h2, f4, f6, f6a, f6b, Int.reduceLT, Int.reduceEq, List.contains_cons, List.contains_nil, Option.map_some, Option.map_none, reduceIte, reduceCtorEq, Nat.reduceEqDiff, Nat.reduceLT, Nat.reduceBEq, Nat.reduceAdd, Nat.reduceMul, Nat.reduceLeDiff, Nat.reduceSub, Bool.false_eq_true]; try rfl) | skip)
    · refine sim_some ?_
      refine' (w_regD ?_ ?_ (w_consD rfl ?_ ?_ ?_ (w_consD rfl ?_ ?_ ?_ (w_consD rfl ?_ ?_ ?_ (w_consD rfl ?_ ?_ ?_ (w_consD rfl ?_ ?_ ?_ (w_consD rfl ?_ ?_ ?_ (w_consD rfl ?_ ?_ ?_ (w_consD rfl ?_ ?_ ?_ (w_consD rfl ?_ ?_ ?_ (w_consD rfl ?_ ?_ ?_ (w_consD rfl ?_ ?_ ?_ (w_consD rfl ?_ ?_ ?_ (w_consD rfl ?_ ?_ ?_ (w_consD rfl ?_ ?_ ?_ (w_barD rfl rfl (w_cons ?_ (w_cons ?_ (w_cons ?_ (w_cons ?_ w_nil))))))))))))))))))) ?_)
      all_goals (first | (simp only [nz, rn, nzShape, h1, h2, Int.reduceLT, Int.reduceEq, List.contains_cons, List.contains_nil, Option.map_some, Option.map_none, reduceIte, reduceCtorEq, Nat.reduceEqDiff, Nat.reduceLT, Nat.reduceBEq, Nat.reduceAdd, Nat.reduceMul, Nat.reduceLeDiff, Nat.reduceSub, Bool.false_eq_true]; try rfl) | skip)
  · refine sim_some ?_
    refine' (w_regD ?_ ?_ (w_consD rfl ?_ ?_ ?_ (w_consD rfl ?_ ?_ ?_ (w_consD rfl ?_ ?_ ?_ (w_consD rfl ?_ ?_ ?_ (w_consD rfl ?_ ?_ ?_ (w_consD rfl ?_ ?_ ?_ (w_consD rfl ?_ ?_ ?_ (w_consD rfl ?_ ?_ ?_ (w_consD rfl ?_ ?_ ?_ (w_consD rfl ?_ ?_ ?_ (w_consD rfl ?_ ?_ ?_ (w_consD rfl ?_ ?_ ?_ (w_consD rfl ?_ ?_ ?_ (w_consD rfl ?_ ?_ ?_ (w_barD rfl rfl (w_cons ?_ (w_cons ?_ (w_cons ?_ (w_cons ?_ w_nil))))))))))))))))))) ?_)
    all_goals (first | (simp only [nz, rn, nzShape, h1, Int.reduceLT, Int.reduceEq, List.contains_cons, List.contains_nil, Option.map_some, Option.map_none, reduceIte, reduceCtorEq, Nat.reduceEqDiff, Nat.reduceLT, Nat.reduceBEq, Nat.reduceAdd, Nat.reduceMul, Nat.reduceLeDiff, Nat.reduceSub, Bool.false_eq_true]; try rfl) | skip)
theorem shape_Pointer_ok (p0 : Shape) (p1 : Int) : Sim (shape_Pointer p0 p1) fun r => evI T 98 [.agg [.int .i64 p0.Slots, .int .i64 p0.Mask], .int .i64 p1] = some (.bool r, [.none, .none]) := by
  unfold shape_Pointer
  refine sim_bind (fun v3 h7 => ?_)
  have f8 := shape_Pointer_j1_ok p0 p1 _ h7
  dsimp only at f8
  refine sim_some ?_
  refine evI_ret (x := x98) rfl rfl rfl ?_
  try simp only [nz, nzShape] at f8
  all_goals
    refine' (w_fn rfl rfl (w_seq (w_reg (w_cons ?_ (w_cons ?_ w_nil)) ?_) (w_go (w_seq f8 (w_go w_ret)))) ?_)
    all_goals (first | (simp only [x98, nz, rn, nzShape, Int.reduceLT, Int.reduceEq, List.contains_cons, List.contains_nil, Option.map_some, Option.map_none, reduceIte, reduceCtorEq, Nat.reduceEqDiff, Nat.reduceLT, Nat.reduceBEq, Nat.reduceAdd, Nat.reduceMul, Nat.reduceLeDiff, Nat.reduceSub, Bool.false_eq_true]; try rfl) | skip)
theorem shape_Pointer_okN (p0 : Shape) (p1 : Int) : Sim (shape_Pointer p0 p1) fun r => ∀ ws, ws.map normA = [.agg [.int .i64 p0.Slots, .int .i64 p0.Mask], .int .i64 p1] → evI T 98 ws = some (.bool r, [.none, .none]) := fun r h => evI_okN (x := x98) rfl rfl rfl (shape_Pointer_ok p0 p1 r h)
end Go.Ab

/-
  Printed by gen.py.
-/
namespace Go.Ab
open Go
set_option linter.unusedVariables false
set_option linter.unusedSimpArgs false
set_option maxRecDepth 100000
set_option maxHeartbeats 4000000
end Go.Ab

/-
  Loops and numbers: plain laws.
-/
namespace Go.Ab
open Go
set_option linter.unusedVariables false
set_option linter.unusedSimpArgs false

/-- total correctness of a loop -/
theorem runL_inv {σ ρ : Type} {body : σ → Option (Stp σ ρ)} (I : σ → Prop) (Q : ρ → Prop) (μ : σ → Nat)
    (h : ∀ s, I s → (∃ r, body s = some (.stop r) ∧ Q r) ∨ ∃ s', body s = some (.next s') ∧ I s' ∧ μ s' < μ s) : ∀ s, I s → ∃ r, runL body s = some r ∧ Q r := by
  intro s
  induction hn : μ s using Nat.strongRecOn generalizing s with
  | ind n ih =>
    intro hs
    rw [runL_eq]
    rcases h s hs with ⟨r, hb, hq⟩ | ⟨s', hb, hi, hm⟩
    · exact ⟨r, by rw [hb]; rfl, hq⟩
    · obtain ⟨r, hr, hq⟩ := ih (μ s') (by omega) s' rfl hi
      exact ⟨r, by rw [hb]; exact hr, hq⟩

theorem wr64 {x : Int} (h1 : -9223372036854775808 ≤ x) (h2 : x ≤ 9223372036854775807) : IntKind.wrap .i64 x = x := wrap_id h1 (by omega)

theorem ofInt_toNat {a : Nat} (h : a < 9223372036854775808) : (BitVec.ofInt 64 (a : Int)).toNat = a := by
  rw [BitVec.toNat_ofInt]
  have : ((a : Int) % ((2 ^ 64 : Nat) : Int)) = a := Int.emod_eq_of_lt (by omega) (by omega)
  rw [this]; rfl

theorem bAnd64 {a b : Nat} (ha : a < 9223372036854775808) (hb : b < 9223372036854775808) : bAnd .i64 a b = ((a &&& b : Nat) : Int) := by
  have h1 := ofInt_toNat ha
  have h2 := ofInt_toNat hb
  unfold bAnd
  show IntKind.wrap .i64 (((BitVec.ofInt 64 (a : Int)) &&& (BitVec.ofInt 64 (b : Int))).toNat : Int) = _
  rw [BitVec.toNat_and, h1, h2]
  have : a &&& b ≤ a := Nat.and_le_left
  exact wr64 (by omega) (by omega)

theorem bOr64 {a b : Nat} (ha : a < 4611686018427387904) (hb : b < 4611686018427387904) : bOr .i64 a b = ((a ||| b : Nat) : Int) := by
  have h1 := ofInt_toNat (a := a) (by omega)
  have h2 := ofInt_toNat (a := b) (by omega)
  unfold bOr
  show IntKind.wrap .i64 (((BitVec.ofInt 64 (a : Int)) ||| (BitVec.ofInt 64 (b : Int))).toNat : Int) = _
  rw [BitVec.toNat_or, h1, h2]
  have : a ||| b < 2 ^ 62 := Nat.or_lt_two_pow (by omega) (by omega)
  exact wr64 (by omega) (by omega)
end Go.Ab

/-
  Shapes.
-/
namespace Go.Ab
open Go
set_option linter.unusedVariables false
set_option linter.unusedSimpArgs false

/-- a power of two, as the document's loop has it -/
theorem power_eq {n : Int} (h : n ≤ 62) : r03_power n = some (2 ^ n.toNat) := by
  unfold r03_power
  have key : ∃ r, r03_power_l1 n (1, 0) = some r ∧ r = 2 ^ n.toNat := by
    refine runL_inv (I := fun s => 0 ≤ s.2 ∧ (s.2 ≤ n ∨ s.2 = 0) ∧ s.1 = 2 ^ s.2.toNat) (Q := fun r => r = 2 ^ n.toNat) (μ := fun s => (n - s.2).toNat) ?_ (1, 0) (by simp)
    rintro ⟨out, i⟩ ⟨h1, h2, h3⟩
    simp only at h1 h2 h3 ⊢
    unfold r03_power_l1_b
    by_cases hi : i < n
    · right
      refine ⟨_, by rw [if_pos (by simpa using hi)], ?_⟩
      have hp : (2 : Int) ^ i.toNat ≤ 2 ^ 61 := by
        exact_mod_cast Nat.pow_le_pow_right (by decide) (show i.toNat ≤ 61 by omega)
      have h0 : (0 : Int) < 2 ^ i.toNat := by exact_mod_cast Nat.two_pow_pos i.toNat
      have e1 : IntKind.wrap .i64 (out * 2) = out * 2 := wr64 (by omega) (by omega)
      have e2 : IntKind.wrap .i64 (i + 1) = i + 1 := wr64 (by omega) (by omega)
      rw [e1, e2]
      refine ⟨⟨by omega, by omega, ?_⟩, by omega⟩
      simp only
      rw [h3, show (i + 1).toNat = i.toNat + 1 by omega, Int.pow_succ]
    · left
      refine ⟨out, by rw [if_neg (by simpa using hi)], ?_⟩
      rw [h3]
      rcases h2 with h2 | h2
      · rw [show i = n by omega]
      · rw [h2, show n.toNat = (0 : Int).toNat by omega]
  obtain ⟨r, h1, h2⟩ := key
  rw [h1, h2]; rfl

theorem two_pow_le {k n : Nat} (h : k ≤ n) : (2 : Int) ^ k ≤ 2 ^ n := by exact_mod_cast Nat.pow_le_pow_right (by decide) h

/-- a shape that may be -/
def OkSh (x : Shape) : Prop := 0 ≤ x.Slots ∧ x.Slots ≤ 16 ∧ 0 ≤ x.Mask ∧ x.Mask < 2 ^ x.Slots.toNat
instance (x : Shape) : Decidable (OkSh x) := by unfold OkSh; exact inferInstance

theorem Check_eq (x : Shape) : shape_Check x = some (if OkSh x then 0 else 16) := by
  unfold shape_Check
  by_cases h : 0 ≤ x.Slots ∧ x.Slots ≤ 16
  · have hp := two_pow_le (show x.Slots.toNat ≤ 16 by omega)
    have h0 : (0 : Int) < 2 ^ x.Slots.toNat := by exact_mod_cast Nat.two_pow_pos _
    have e : IntKind.wrap .i64 (1 * 2 ^ (min x.Slots.toNat 64)) = 2 ^ x.Slots.toNat := by
      rw [show min x.Slots.toNat 64 = x.Slots.toNat by omega, Int.one_mul]
      exact wr64 (by omega) (by omega)
    rw [e]
    by_cases h2 : 0 ≤ x.Mask ∧ x.Mask < 2 ^ x.Slots.toNat
    · rw [if_neg (by simp; omega), if_pos (show OkSh x from ⟨h.1, h.2, h2⟩)]
    · rw [if_pos (by simp; omega), if_neg (fun hh : OkSh x => h2 hh.2.2)]
  · rw [if_pos (by simp; omega), if_neg (fun hh : OkSh x => h ⟨hh.1, hh.2.1⟩)]

theorem rCheck_eq (x : Shape) : r03_Check x = some (if OkSh x then 0 else 16) := by
  unfold r03_Check r03_Check_j2
  by_cases h : 0 ≤ x.Slots ∧ x.Slots ≤ 16
  · rw [power_eq (by omega)]
    have h0 : (0 : Int) < 2 ^ x.Slots.toNat := by exact_mod_cast Nat.two_pow_pos _
    by_cases h1 : 0 ≤ x.Mask
    · by_cases h2 : x.Mask < 2 ^ x.Slots.toNat
      · rw [if_pos (show OkSh x from ⟨h.1, h.2, h1, h2⟩)]
        simp [show ¬ x.Slots < 0 by omega, show ¬ 16 < x.Slots by omega, show ¬ x.Mask < 0 by omega, show ¬ (2 ^ x.Slots.toNat ≤ x.Mask) by omega]
      · rw [if_neg (fun hh : OkSh x => h2 hh.2.2.2)]
        simp [show ¬ x.Slots < 0 by omega, show ¬ 16 < x.Slots by omega, show ¬ x.Mask < 0 by omega, show (2 ^ x.Slots.toNat ≤ x.Mask) by omega]
    · rw [if_neg (fun hh : OkSh x => h1 hh.2.2.1)]
      simp [show ¬ x.Slots < 0 by omega, show ¬ 16 < x.Slots by omega, show x.Mask < 0 by omega]
  · rw [if_pos (by simp; omega), if_neg (fun hh : OkSh x => h ⟨hh.1, hh.2.1⟩)]

/-! ### which slots hold pointers -/
theorem bits_eq : shape_bits = some ((List.range 16).map fun i => (2 : Int) ^ i) := by rfl

theorem tb {m k : Nat} (hm : m < 65536) (hk : k < 16) : (bAnd .i64 (m : Int) ((2 : Int) ^ k) != 0) = m.testBit k := by
  have h1 : (2 : Nat) ^ k ≤ 2 ^ 15 := Nat.pow_le_pow_right (by decide) (by omega)
  have := bAnd64 (a := m) (b := 2 ^ k) (by omega) (by omega)
  rw [show (((2 : Nat) ^ k : Nat) : Int) = (2 : Int) ^ k by push_cast; rfl] at this
  rw [this]
  cases hb : m.testBit k with
  | true =>
    have : (m &&& 2 ^ k) ≠ 0 := fun h => by
      have h2 : (m &&& 2 ^ k).testBit k = true := by rw [Nat.testBit_and, hb, Nat.testBit_two_pow]; simp
      rw [h] at h2; simp at h2
    simp only [bne_iff_ne, ne_eq]; omega
  | false =>
    have : (m &&& 2 ^ k) = 0 := Nat.eq_of_testBit_eq fun j => by
      rw [Nat.testBit_and, Nat.testBit_two_pow, Nat.zero_testBit]
      by_cases hj : k = j
      · subst hj; rw [hb]; rfl
      · simp [hj]
    rw [this]; rfl

theorem td {m k : Nat} (hm : m < 65536) (hk : k < 16) : (Int.tmod (IntKind.wrap .i64 (Int.tdiv (m : Int) ((2 : Int) ^ k))) 2 == 1) = m.testBit k := by
  have e1 : Int.tdiv (m : Int) ((2 : Int) ^ k) = ((m / 2 ^ k : Nat) : Int) := by
    rw [Int.tdiv_eq_ediv_of_nonneg (by omega)]; push_cast; rfl
  have h0 : m / 2 ^ k ≤ m := Nat.div_le_self _ _
  rw [e1, Nat.testBit_eq_decide_div_mod_eq]
  generalize m / 2 ^ k = q at h0 ⊢
  rw [wr64 (by omega) (by omega), Int.tmod_eq_emod_of_nonneg (by omega)]
  by_cases h : q % 2 = 1
  · rw [decide_eq_true h, beq_iff_eq]; omega
  · rw [decide_eq_false h, beq_eq_false_iff_ne]; omega

theorem Pointer_eq {x : Shape} (hx : OkSh x) (k : Int) : shape_Pointer x k = some (decide (0 ≤ k) && (decide (k < x.Slots) && x.Mask.toNat.testBit k.toNat)) := by
  obtain ⟨h1, h2, h3, h4⟩ := hx
  unfold shape_Pointer shape_Pointer_j1
  have hp := two_pow_le (show x.Slots.toNat ≤ 16 by omega)
  by_cases h : 0 ≤ k
  · by_cases h' : k < x.Slots
    · have hix : ixa ((List.range 16).map fun i => (2 : Int) ^ i) 16 k = some (2 ^ k.toNat) := by
        unfold ixa
        rw [if_pos (by omega)]
        simp [show k.toNat < 16 by omega]
      have e := tb (m := x.Mask.toNat) (k := k.toNat) (by omega) (by omega)
      rw [show ((x.Mask.toNat : Nat) : Int) = x.Mask by omega] at e
      simp only [bits_eq, h, h', decide_true, if_true, Option.bind_some, hix, e, Bool.true_and]
    · simp [h, h']
  · simp [h]

theorem rPointer_eq {x : Shape} (hx : OkSh x) (k : Int) : r03_Pointer x k = shape_Pointer x k := by
  rw [Pointer_eq hx]
  obtain ⟨h1, h2, h3, h4⟩ := hx
  unfold r03_Pointer
  have hp := two_pow_le (show x.Slots.toNat ≤ 16 by omega)
  by_cases h : 0 ≤ k ∧ k < x.Slots
  · have e := td (m := x.Mask.toNat) (k := k.toNat) (by omega) (by omega)
    rw [show ((x.Mask.toNat : Nat) : Int) = x.Mask by omega] at e
    have h0 : (2 : Int) ^ k.toNat ≠ 0 := by
      have : (0 : Int) < 2 ^ k.toNat := by exact_mod_cast Nat.two_pow_pos _
      omega
    rw [if_neg (by simp; omega), power_eq (by omega)]
    simp only [Option.bind_some, h0, decide_false, Bool.false_eq_true, if_false, e, h.1, h.2, decide_true, Bool.true_and]
  · rw [if_pos (by simp; omega)]
    by_cases h' : 0 ≤ k
    · simp [show ¬ k < x.Slots by omega]
    · simp [h']

/-! ### how many -/
end Go.Ab

/-
  Loops: more plain laws.
-/
namespace Go.Ab
open Go
set_option linter.unusedVariables false
set_option linter.unusedSimpArgs false

theorem runN_congr {σ ρ : Type} {b1 b2 : σ → Option (Stp σ ρ)} (I : σ → Prop) (h : ∀ s, I s → b1 s = b2 s ∧ ∀ s', b1 s = some (.next s') → I s') : ∀ (n : Nat) (s : σ), I s → runN b1 n s = runN b2 n s
  | 0, _, _ => rfl
  | n + 1, s, hs => by
    simp only [runN]
    have := h s hs
    rw [← this.1]
    split
    · rename_i s' e; exact runN_congr I h n s' (this.2 s' e)
    · rfl
    · rfl
theorem runL_congr {σ ρ : Type} {b1 b2 : σ → Option (Stp σ ρ)} (I : σ → Prop) (h : ∀ s, I s → b1 s = b2 s ∧ ∀ s', b1 s = some (.next s') → I s') (s : σ) (hs : I s) : runL b1 s = runL b2 s := ext_some fun r => by
  rw [runL_some, runL_some]
  constructor
  · rintro ⟨n, hn⟩; exact ⟨n, by rw [← runN_congr I h n s hs]; exact hn⟩
  · rintro ⟨n, hn⟩; exact ⟨n, by rw [runN_congr I h n s hs]; exact hn⟩
/-- a loop whose number goes up to another -/
theorem runL_up {σ ρ : Type} {body : σ → Option (Stp σ ρ)} (N : Nat) (idx : σ → Int) (I : σ → Prop) (Q : ρ → Prop)
    (h : ∀ s, I s → 0 ≤ idx s → idx s ≤ N → (∃ r, body s = some (.stop r) ∧ Q r) ∨ ∃ s', body s = some (.next s') ∧ I s' ∧ idx s' = idx s + 1 ∧ idx s' ≤ N) (s : σ) (hs : I s) (h0 : 0 ≤ idx s) (h1 : idx s ≤ N) : ∃ r, runL body s = some r ∧ Q r :=
  runL_inv (fun s => I s ∧ 0 ≤ idx s ∧ idx s ≤ N) Q (fun s => (N - idx s).toNat) (fun s ⟨hI, h0, h1⟩ => by
    rcases h s hI h0 h1 with hr | ⟨s', hb, hI', hi, hN⟩
    · exact .inl hr
    · exact .inr ⟨s', hb, ⟨hI', by omega, hN⟩, by omega⟩) s ⟨hs, h0, h1⟩
theorem ix_of_lt {α : Type} {xs : List α} {i : Int} (h0 : 0 ≤ i) (h1 : i < xs.length) : ∃ x, ix xs i = some x ∧ xs[i.toNat]? = some x := by
  have : i.toNat < xs.length := by omega
  refine ⟨xs[i.toNat], ?_, by simp [this]⟩
  simp only [ix, if_pos h0, List.getElem?_eq_getElem this]
theorem wr1 {i : Int} (h0 : 0 ≤ i) (h1 : i < 140737488355328) : IntKind.wrap .i64 (i + 1) = i + 1 := wr64 (by omega) (by omega)
/-- what a list has from a place on -/
theorem drop_step {α : Type} {xs : List α} {i : Nat} {x : α} (h : xs[i]? = some x) : xs.drop i = x :: xs.drop (i + 1) := by
  obtain ⟨hl, rfl⟩ := List.getElem?_eq_some_iff.1 h
  rw [List.drop_eq_getElem_cons hl]
end Go.Ab

/-
  Graphs: what the document's check and the code's answer, as one function.
-/
namespace Go.Ab
open Go
set_option linter.unusedVariables false
set_option linter.unusedSimpArgs false

def okB (x : Shape) : Bool := decide (OkSh x)
def ptB (x : Shape) (i : Nat) : Bool := decide (0 ≤ (i : Int)) && (decide ((i : Int) < x.Slots) && x.Mask.toNat.testBit (i : Int).toNat)

/-- a number of objects that were met, or none -/
def enc1 : Option Int → Int
  | some m => m
  | .none => -1
def Nn (o : Option Int) : Prop := ∀ m, o = some m → 0 ≤ m

theorem nx_nn {m v m' : Int} (h0 : 0 ≤ m) (h : nx m v = some m') : 0 ≤ m' := by
  simp only [nx] at h
  split at h
  · cases h
  · obtain rfl := Option.some.inj h
    simp only [mxI]; split <;> omega

theorem next_eq {o : Option Int} (h : Nn o) (v : Int) : r28_next (enc1 o) v = some (enc1 (o.bind fun m => nx m v)) ∧ Nn (o.bind fun m => nx m v) := by
  cases o with
  | none => exact ⟨by simp [r28_next, enc1], fun m h => by simp at h⟩
  | some m =>
    have h0 := h m rfl
    refine ⟨?_, fun m' h' => nx_nn h0 (by simpa using h')⟩
    show r28_next m v = _
    by_cases h1 : v < 0 ∨ IntKind.wrap .i64 (m + 1) < v
    · have e : nx m v = Option.none := by simp only [nx]; rw [if_pos h1]
      simp only [Option.bind_some, e]
      show r28_next m v = some (-1)
      unfold r28_next
      rw [if_pos (by simp; omega)]
    · have e : nx m v = some (mxI m v) := by simp only [nx]; rw [if_neg h1]
      simp only [Option.bind_some, e]
      show r28_next m v = some (mxI m v)
      unfold r28_next mxI
      rw [if_neg (by simp; omega)]
      by_cases h2 : m < v
      · rw [if_pos (by simpa using h2), if_pos h2]
      · rw [if_neg (by simpa using h2), if_neg h2]

theorem nxs_bind {o : Option Int} {v : Int} {r : List Int} : (o.bind fun m => nxs m (v :: r)) = (o.bind fun m => nx m v).bind fun m => nxs m r := by
  cases o <;> rfl

theorem roots_eq (f : Form) (hr : f.Roots.length < 140737488355328) : r28_Check_l1 f (0, 0) = some (enc1 (nxs 0 f.Roots)) := by
  obtain ⟨r, h1, h2⟩ := runL_up (body := fun s : Int × Int => r28_Check_l1_b f s.1 s.2) f.Roots.length (fun s => s.2)
    (fun s => ∃ o, Nn o ∧ s.1 = enc1 o ∧ (o.bind fun m => nxs m (f.Roots.drop s.2.toNat)) = nxs 0 f.Roots) (fun r => r = enc1 (nxs 0 f.Roots)) (fun s hI h0 h1 => by
      obtain ⟨a, i⟩ := s
      obtain ⟨o, ho, ha, he⟩ := hI
      simp only at ha he h0 h1 ⊢
      subst ha
      by_cases hi : i < f.Roots.length
      · right
        obtain ⟨v, hv, hv'⟩ := ix_of_lt h0 hi
        obtain ⟨e1, e2⟩ := next_eq ho v
        refine ⟨(enc1 (o.bind fun m => nx m v), i + 1), by simp only [r28_Check_l1_b, hi, decide_true, if_true, hv, Option.bind_some, e1, wr1 h0 (by omega)], ⟨_, e2, rfl, ?_⟩, rfl, by omega⟩
        rw [drop_step hv', nxs_bind] at he
        rw [← he, show (i + 1).toNat = i.toNat + 1 by omega]
      · left
        refine ⟨enc1 o, by simp [r28_Check_l1_b, hi], ?_⟩
        rw [List.drop_eq_nil_of_le (by omega)] at he
        rw [← he]
        cases o <;> rfl) (0, 0) ⟨some 0, fun m h => by simp at h; omega, rfl, rfl⟩ (by simp) (by simp)
  rw [r28_Check_l1, h1, h2]

theorem slo_nn {P : Nat → Bool} : ∀ {l : List Int} {i : Nat} {m m' : Int}, 0 ≤ m → slo P i m l = some m' → 0 ≤ m'
  | [], i, m, m', h0, h => by simp only [slo, Option.some.injEq] at h; omega
  | v :: r, i, m, m', h0, h => by
    simp only [slo] at h
    split at h
    · simp only [Option.bind_eq_some_iff] at h
      obtain ⟨m1, h1, h2⟩ := h
      exact slo_nn (nx_nn h0 h1) h2
    · exact slo_nn h0 h
theorem nxs_nn : ∀ {l : List Int} {m m' : Int}, 0 ≤ m → nxs m l = some m' → 0 ≤ m'
  | [], m, m', h0, h => by simp only [nxs, Option.some.injEq] at h; omega
  | v :: r, m, m', h0, h => by
    simp only [nxs, Option.bind_eq_some_iff] at h
    obtain ⟨m1, h1, h2⟩ := h
    exact nxs_nn (nx_nn h0 h1) h2

theorem slots_eq (f : Form) (j : Int) (x : Shape) (hx : OkSh x) (l : List Int) (hl : ix f.Slots j = some l) (hlen : (l.length : Int) = x.Slots) (hlt : l.length < 140737488355328) (m0 : Int) (hm0 : 0 ≤ m0) :
    r28_Check_l25 f j x (m0, 0) = some (enc1 (slo (ptB x) 0 m0 l)) := by
  obtain ⟨r, h1, h2⟩ := runL_up (body := fun s : Int × Int => r28_Check_l25_b f j x s.1 s.2) l.length (fun s => s.2)
    (fun s => ∃ o, Nn o ∧ s.1 = enc1 o ∧ (o.bind fun m => slo (ptB x) s.2.toNat m (l.drop s.2.toNat)) = slo (ptB x) 0 m0 l) (fun r => r = enc1 (slo (ptB x) 0 m0 l)) (fun s hI h0 h1 => by
      obtain ⟨a, i⟩ := s
      obtain ⟨o, ho, ha, he⟩ := hI
      simp only at ha he h0 h1 ⊢
      subst ha
      by_cases hi : i < l.length
      · right
        obtain ⟨v, hv, hv'⟩ := ix_of_lt h0 hi
        obtain ⟨e1, e2⟩ := next_eq ho v
        have hp : r03_Pointer x i = some (ptB x i.toNat) := by
          rw [rPointer_eq hx, Pointer_eq hx, ptB, show ((i.toNat : Nat) : Int) = i by omega]
        have hstep : r28_Check_l25_b f j x (enc1 o) i = some (.next (enc1 (if ptB x i.toNat = true then o.bind fun m => nx m v else o), i + 1)) := by
          simp only [r28_Check_l25_b, show i < x.Slots by omega, decide_true, if_true, hp, Option.bind_some, r28_Check_j24, wr1 h0 (by omega)]
          cases ptB x i.toNat with
          | true => simp only [if_true, hl, Option.bind_some, hv, e1]
          | false => rfl
        refine ⟨_, hstep, ⟨if ptB x i.toNat = true then o.bind fun m => nx m v else o, ?_, rfl, ?_⟩, rfl, by omega⟩
        · split
          · exact e2
          · exact ho
        · rw [drop_step hv'] at he
          rw [← he, show (i + 1).toNat = i.toNat + 1 by omega]
          cases hb : ptB x i.toNat with
          | true => cases o <;> simp [slo, hb]
          | false => cases o <;> simp [slo, hb]
      · left
        refine ⟨enc1 o, by simp [r28_Check_l25_b, show ¬ i < x.Slots by omega], ?_⟩
        rw [List.drop_eq_nil_of_le (by omega)] at he
        rw [← he]
        cases o <;> rfl) (m0, 0) ⟨some m0, fun m h => by simp at h; omega, rfl, rfl⟩ (by simp) (by simp)
  rw [r28_Check_l25, h1, h2]

theorem shapes_eq (f : Form) (hz : f.Shapes.length = f.Slots.length) (hs : f.Shapes.length < 140737488355328) (hl : ∀ l ∈ f.Slots, l.length < 140737488355328) (m0 : Int) (hm0 : 0 ≤ m0) :
    r28_Check_l26 f (m0, 0) = some (match outr okB ptB 0 m0 (f.Shapes.zip f.Slots) with | .next m => .next m | .stop c => .stop c) := by
  obtain ⟨r, h1, h2⟩ := runL_up (body := fun s : Int × Int => r28_Check_l26_b f s.1 s.2) f.Shapes.length (fun s => s.2)
    (fun s => 0 ≤ s.1 ∧ outr okB ptB s.2.toNat s.1 ((f.Shapes.zip f.Slots).drop s.2.toNat) = outr okB ptB 0 m0 (f.Shapes.zip f.Slots)) (fun r => r = outr okB ptB 0 m0 (f.Shapes.zip f.Slots)) (fun s hI h0 h1 => by
      obtain ⟨m, j⟩ := s
      obtain ⟨hm, he⟩ := hI
      simp only at hm he h0 h1 ⊢
      by_cases hi : j < f.Shapes.length
      · obtain ⟨x, hx, hx'⟩ := ix_of_lt h0 hi
        obtain ⟨l, hl1, hl'⟩ := ix_of_lt (xs := f.Slots) h0 (by omega)
        have hzz : (f.Shapes.zip f.Slots)[j.toNat]? = some (x, l) := by rw [List.getElem?_zip_eq_some]; exact ⟨hx', hl'⟩
        rw [drop_step hzz] at he
        simp only [outr] at he
        have hj20 : r28_Check_j20 f m j x = some (!(okB x) || ((l.length : Int) != x.Slots)) := by
          simp only [r28_Check_j20, rCheck_eq, Option.bind_some, okB]
          by_cases hk : OkSh x
          · simp [hk, hl1]
          · simp [hk]
        by_cases ha : okB x = false ∨ (l.length : Int) ≠ x.Slots
        · left
          rw [if_pos ha] at he
          refine ⟨.stop 16, ?_, he⟩
          have : (!(okB x) || ((l.length : Int) != x.Slots)) = true := by rcases ha with h | h <;> simp [h]
          simp only [r28_Check_l26_b, hi, decide_true, if_true, hx, Option.bind_some, hj20, this]
        · rw [if_neg ha] at he
          have hok : okB x = true := by cases h : okB x <;> simp_all
          have hll : (l.length : Int) = x.Slots := by
            apply Classical.byContradiction; intro h; exact ha (.inr h)
          have hcond : (!(okB x) || ((l.length : Int) != x.Slots)) = false := by simp [hok, hll]
          rw [show ((j.toNat : Nat) : Int) = j by omega] at he
          by_cases hb : m ≤ j
          · left
            rw [if_pos hb] at he
            exact ⟨.stop 14, by simp only [r28_Check_l26_b, hi, decide_true, if_true, hx, Option.bind_some, hj20, hcond, Bool.false_eq_true, if_false, hb], he⟩
          · rw [if_neg hb] at he
            have hsl := slots_eq f j x (by simpa [okB] using hok) l hl1 hll (hl l (List.mem_of_getElem? hl')) m hm
            cases hs2 : slo (ptB x) 0 m l with
            | none =>
              left
              rw [hs2] at he hsl
              exact ⟨.stop 19, by simp [r28_Check_l26_b, hi, hx, hj20, hcond, hb, hsl, enc1], he⟩
            | some m' =>
              right
              rw [hs2] at he hsl
              have hm' := slo_nn hm hs2
              refine ⟨(m', j + 1), ?_, ⟨hm', ?_⟩, rfl, by omega⟩
              · simp [r28_Check_l26_b, hi, hx, hj20, hcond, hb, hsl, enc1, show ¬ m' < 0 by omega, wr1 h0 (by omega)]
              · simp only [show (j + 1).toNat = j.toNat + 1 by omega]
                exact he
      · left
        rw [List.drop_eq_nil_of_le (by simp; omega)] at he
        exact ⟨.next m, by simp [r28_Check_l26_b, hi], he⟩) (m0, 0) ⟨hm0, rfl⟩ (by simp) (by simp)
  rw [r28_Check_l26, h1, h2]
  cases outr okB ptB 0 m0 (f.Shapes.zip f.Slots) <;> rfl

theorem rCheck_chk (f : Form) (hr : f.Roots.length < 140737488355328) (hs : f.Shapes.length < 140737488355328) (hl : ∀ l ∈ f.Slots, l.length < 140737488355328) :
    r28_Check f = some (chk okB ptB f) := by
  unfold r28_Check chk
  by_cases hz : f.Shapes.length = f.Slots.length
  · rw [if_neg (by simp [hz]), if_neg (by simpa using hz), roots_eq f hr]
    cases h0 : nxs 0 f.Roots with
    | none => rfl
    | some m =>
      have hm := nxs_nn (Int.le_refl 0) h0
      simp only [Option.bind_some, enc1]
      rw [if_neg (by simpa using hm), shapes_eq f hz hs hl m hm]
      cases ho : outr okB ptB 0 m (f.Shapes.zip f.Slots) with
      | stop c => rfl
      | next m' =>
        simp only [Option.bind_some]
        by_cases h3 : m' = (f.Shapes.length : Int)
        · simp [h3]
        · simp [h3]
  · rw [if_pos (by simp; omega), if_pos (by simpa using hz)]
end Go.Ab

/-
  Graphs: whether two are the same, and their words.
-/
namespace Go.Ab
open Go
set_option linter.unusedVariables false
set_option linter.unusedSimpArgs false

theorem eq_loop {α : Type} [DecidableEq α] {p q : List α} (hlen : p.length = q.length) (hN : p.length < 140737488355328) {body : Int → Option (Stp Int (Stp Unit Unit))}
    (hb : ∀ (i : Int) (x y : α), 0 ≤ i → i < p.length → ix p i = some x → ix q i = some y → p[i.toNat]? = some x → q[i.toNat]? = some y → body i = some (if x = y then .next (IntKind.wrap .i64 (i + 1)) else .stop (.stop ())))
    (he : ∀ i : Int, ¬ i < p.length → body i = some (.stop (.next ()))) : runL body 0 = some (if p = q then .next () else .stop ()) := by
  obtain ⟨r, h1, h2⟩ := runL_up (body := body) p.length (fun s => s) (fun s => (p.drop s.toNat = q.drop s.toNat ↔ p = q)) (fun r => r = if p = q then .next () else .stop ()) (fun i hI h0 h1 => by
    by_cases hi : i < p.length
    · obtain ⟨x, hx, hx'⟩ := ix_of_lt h0 hi
      obtain ⟨y, hy, hy'⟩ := ix_of_lt (xs := q) h0 (by omega)
      have hs := hb i x y h0 hi hx hy hx' hy'
      rw [drop_step hx', drop_step hy', List.cons.injEq] at hI
      by_cases hxy : x = y
      · right
        rw [if_pos hxy, wr1 h0 (by omega)] at hs
        refine ⟨i + 1, hs, ?_, rfl, by omega⟩
        rw [show (i + 1).toNat = i.toNat + 1 by omega]
        rw [← hI]
        simp [hxy]
      · left
        rw [if_neg hxy] at hs
        refine ⟨_, hs, ?_⟩
        rw [if_neg (fun h => hxy (hI.2 h).1)]
    · left
      refine ⟨_, he i hi, ?_⟩
      rw [List.drop_eq_nil_of_le (by omega), List.drop_eq_nil_of_le (by omega)] at hI
      rw [if_pos (hI.1 rfl)]) 0 (by simp) (by simp) (by simp)
  rw [h1, h2]

theorem eqI {p q : List Int} (hN : p.length < 140737488355328) : slices_Equal_intint p q = some (decide (p = q)) := by
  unfold slices_Equal_intint
  by_cases hl : p.length = q.length
  · rw [if_neg (by simp [hl])]
    unfold slices_Equal_intint_l1
    rw [eq_loop hl hN (fun i x y h0 hi hx hy _ _ => by by_cases h : x = y <;> simp [slices_Equal_intint_l1_b, hi, hx, hy, h]) (fun i hi => by simp [slices_Equal_intint_l1_b, hi])]
    by_cases h : p = q <;> simp [h]
  · rw [if_pos (by simp; omega)]
    have : p ≠ q := fun h => hl (by rw [h])
    simp [this]
theorem eqI64 {p q : List Int} (hN : p.length < 140737488355328) : slices_Equal_int64int64 p q = some (decide (p = q)) := by
  unfold slices_Equal_int64int64
  by_cases hl : p.length = q.length
  · rw [if_neg (by simp [hl])]
    unfold slices_Equal_int64int64_l1
    rw [eq_loop hl hN (fun i x y h0 hi hx hy _ _ => by by_cases h : x = y <;> simp [slices_Equal_int64int64_l1_b, hi, hx, hy, h]) (fun i hi => by simp [slices_Equal_int64int64_l1_b, hi])]
    by_cases h : p = q <;> simp [h]
  · rw [if_pos (by simp; omega)]
    have : p ≠ q := fun h => hl (by rw [h])
    simp [this]
theorem eqInts {p q : List Int} (hN : p.length < 140737488355328) : r05_Ints p q = some (decide (p = q)) := by
  unfold r05_Ints
  by_cases hl : p.length = q.length
  · rw [if_neg (by simp [hl])]
    unfold r05_Ints_l1
    rw [eq_loop hl hN (fun i x y h0 hi hx hy _ _ => by by_cases h : x = y <;> simp [r05_Ints_l1_b, hi, hx, hy, h]) (fun i hi => by simp [r05_Ints_l1_b, hi])]
    by_cases h : p = q <;> simp [h]
  · rw [if_pos (by simp; omega)]
    have : p ≠ q := fun h => hl (by rw [h])
    simp [this]
theorem eqNums {p q : List Int} (hN : p.length < 140737488355328) : r13_Nums p q = some (decide (p = q)) := by
  unfold r13_Nums r13_Nums_j1
  by_cases hl : p.length = q.length
  · rw [if_pos (by simp [hl])]
    unfold r13_Begins
    rw [if_neg (by simp; omega)]
    unfold r13_Begins_l1
    rw [eq_loop hl hN (fun i x y h0 hi hx hy _ _ => by by_cases h : x = y <;> simp [r13_Begins_l1_b, hi, hx, hy, h]) (fun i hi => by simp [r13_Begins_l1_b, hi])]
    by_cases h : p = q <;> simp [h]
  · rw [if_neg (by simp; omega)]
    have : p ≠ q := fun h => hl (by rw [h])
    simp [this]
theorem sh_eq (x y : Shape) : ((x.Slots == y.Slots) && (x.Mask == y.Mask)) = decide (x = y) := by
  cases x; cases y; rw [Bool.eq_iff_iff]; simp
theorem eqSh {p q : List Shape} (hN : p.length < 140737488355328) : slices_Equal_apiShapeapiShape p q = some (decide (p = q)) := by
  unfold slices_Equal_apiShapeapiShape
  by_cases hl : p.length = q.length
  · rw [if_neg (by simp [hl])]
    unfold slices_Equal_apiShapeapiShape_l1
    rw [eq_loop hl hN (fun i x y h0 hi hx hy _ _ => by by_cases h : x = y <;> simp only [slices_Equal_apiShapeapiShape_l1_b, hi, hx, hy, sh_eq, h, decide_true, decide_false, Option.bind_some, if_true, if_false, Bool.not_true, Bool.not_false, Bool.false_eq_true]) (fun i hi => by simp [slices_Equal_apiShapeapiShape_l1_b, hi])]
    by_cases h : p = q <;> simp [h]
  · rw [if_pos (by simp; omega)]
    have : p ≠ q := fun h => hl (by rw [h])
    simp [this]

def SmallF (f : Form) : Prop := f.Roots.length < 140737488355328 ∧ f.Shapes.length < 140737488355328 ∧ f.Slots.length < 140737488355328 ∧ ∀ l ∈ f.Slots, l.length < 140737488355328

theorem same_eq {f g : Form} (hf : SmallF f) : canon_Same f g = some (decide (f.Roots = g.Roots ∧ f.Shapes = g.Shapes ∧ f.Slots = g.Slots)) := by
  obtain ⟨h1, h2, h3, h4⟩ := hf
  unfold canon_Same canon_Same_j1
  rw [eqI h1]
  by_cases ha : f.Roots = g.Roots
  · simp only [ha, decide_true, Option.bind_some, Bool.not_true, Bool.false_eq_true, if_false, eqSh h2, true_and]
    by_cases hb : f.Shapes = g.Shapes
    · simp only [hb, decide_true, Option.bind_some, Bool.not_true, Bool.false_eq_true, if_false, true_and]
      by_cases hl : f.Slots.length = g.Slots.length
      · rw [if_neg (by simp [hl])]
        unfold canon_Same_l2
        rw [eq_loop hl h3 (fun i x y h0 hi hx hy hx' hy' => by
          simp only [canon_Same_l2_b, hi, decide_true, if_true, hx, hy, Option.bind_some, eqI64 (h4 x (List.mem_of_getElem? hx'))]
          by_cases h : x = y <;> simp [h]) (fun i hi => by simp [canon_Same_l2_b, hi])]
        by_cases h : f.Slots = g.Slots <;> simp [h]
      · rw [if_pos (by simp; omega)]
        have : f.Slots ≠ g.Slots := fun h => hl (by rw [h])
        simp [this]
    · simp [hb]
  · simp [ha]

theorem rsame_eq {f g : Form} (hf : SmallF f) : r28_Same f g = some (decide (f.Roots = g.Roots ∧ f.Shapes = g.Shapes ∧ f.Slots = g.Slots)) := by
  obtain ⟨h1, h2, h3, h4⟩ := hf
  unfold r28_Same r28_Same_j1
  rw [eqInts h1]
  by_cases ha : f.Roots = g.Roots
  · simp only [ha, decide_true, Option.bind_some, Bool.not_true, Bool.false_eq_true, if_false, true_and]
    by_cases hlb : f.Shapes.length = g.Shapes.length
    · rw [if_neg (by simp [hlb])]
      by_cases hl : f.Slots.length = g.Slots.length
      · simp only [Option.bind_some]
        rw [if_neg (by simp [hl])]
        unfold r28_Same_l2 r28_Same_l3
        rw [eq_loop hlb h2 (fun i x y h0 hi hx hy _ _ => by by_cases h : x = y <;> simp only [r28_Same_l2_b, hi, hx, hy, sh_eq, h, decide_true, decide_false, Option.bind_some, if_true, if_false, Bool.not_true, Bool.not_false, Bool.false_eq_true]) (fun i hi => by simp [r28_Same_l2_b, hi])]
        rw [eq_loop hl h3 (fun i x y h0 hi hx hy hx' hy' => by
          simp only [r28_Same_l3_b, hi, decide_true, if_true, hx, hy, Option.bind_some, eqNums (h4 x (List.mem_of_getElem? hx'))]
          by_cases h : x = y <;> simp [h]) (fun i hi => by simp [r28_Same_l3_b, hi])]
        by_cases hb : f.Shapes = g.Shapes
        · by_cases h : f.Slots = g.Slots <;> simp [h, hb]
        · simp [hb]
      · simp only [Option.bind_some]
        rw [if_pos (by simp; omega)]
        have : f.Slots ≠ g.Slots := fun h => hl (by rw [h])
        simp [this]
    · rw [if_pos (by simp; omega)]
      have : f.Shapes ≠ g.Shapes := fun h => hlb (by rw [h])
      simp [this]
  · simp [ha]

theorem wrap_mod (a : Int) : IntKind.wrap .i64 a = (a + 9223372036854775808) % 18446744073709551616 - 9223372036854775808 := by
  simp only [IntKind.wrap, IntKind.bits, IntKind.signed, Bool.true_and, decide_eq_true_eq, ge_iff_le, Nat.reduceSub, Int.reducePow]
  split <;> omega
theorem wrap_add (a b : Int) : IntKind.wrap .i64 (a + IntKind.wrap .i64 b) = IntKind.wrap .i64 (a + b) := by
  simp only [wrap_mod]; omega
theorem wrap_add' (a b : Int) : IntKind.wrap .i64 (IntKind.wrap .i64 a + b) = IntKind.wrap .i64 (a + b) := by
  rw [Int.add_comm, wrap_add, Int.add_comm]

theorem words_eq {f : Form} (hs : f.Shapes.length < 140737488355328) : canon_Words f = r28_Words f ∧ ∃ n, r28_Words f = some n := by
  have hb : ∀ n i, canon_Words_l1_b f n i = r28_Words_l1_b f n i := fun n i => by
    simp only [canon_Words_l1_b, r28_Words_l1_b]
    have : ∀ x : Shape, IntKind.wrap .i64 (n + IntKind.wrap .i64 (1 + x.Slots)) = IntKind.wrap .i64 (IntKind.wrap .i64 (n + 1) + x.Slots) := fun x => by
      rw [wrap_add, wrap_add', Int.add_assoc]
    simp only [this]
  have hl : canon_Words_l1 f = r28_Words_l1 f := by
    funext s
    unfold canon_Words_l1 r28_Words_l1
    simp only [hb]
  refine ⟨by unfold canon_Words r28_Words; rw [hl], ?_⟩
  obtain ⟨r, h1, _⟩ := runL_up (body := fun s : Int × Int => r28_Words_l1_b f s.1 s.2) f.Shapes.length (fun s => s.2) (fun _ => True) (fun _ => True) (fun s _ h0 h1 => by
    obtain ⟨n, i⟩ := s
    simp only at h0 h1 ⊢
    by_cases hi : i < f.Shapes.length
    · right
      obtain ⟨x, hx, _⟩ := ix_of_lt h0 hi
      exact ⟨(IntKind.wrap .i64 ((IntKind.wrap .i64 (n + 1)) + x.Slots), i + 1), by simp [r28_Words_l1_b, hi, hx, wr1 h0 (show i < 140737488355328 by omega)], trivial, rfl, by omega⟩
    · left
      exact ⟨n, by simp [r28_Words_l1_b, hi], trivial⟩) (0, 0) trivial (by simp) (by simp)
  exact ⟨r, by unfold r28_Words r28_Words_l1; rw [h1]; rfl⟩

theorem light_tot {f : Form} (hs : f.Slots.length < 140737488355328) : ∃ b, l28_light f = some b := by
  obtain ⟨r, h1, _⟩ := runL_up (body := fun s : Int × Int => r28_Weight_l3_b f 300 s.1 s.2) f.Slots.length (fun s => s.2) (fun _ => True) (fun _ => True) (fun s _ h0 h1 => by
    obtain ⟨n, i⟩ := s
    simp only at h0 h1 ⊢
    by_cases hi : i < f.Slots.length
    · obtain ⟨x, hx, _⟩ := ix_of_lt h0 hi
      by_cases hn : n ≤ 300
      · right
        exact ⟨(IntKind.wrap .i64 ((IntKind.wrap .i64 (n + 1)) + ((x.length : Int))), i + 1), by simp [r28_Weight_l3_b, hi, hn, hx, wr1 h0 (show i < 140737488355328 by omega)], trivial, rfl, by omega⟩
      · left
        exact ⟨n, by simp [r28_Weight_l3_b, hn], trivial⟩
    · left
      exact ⟨n, by simp [r28_Weight_l3_b, hi], trivial⟩) (IntKind.wrap .i64 (((f.Roots.length : Int)) + ((f.Shapes.length : Int))), 0) trivial (by simp) (by simp)
  exact ⟨decide (r ≤ 300), by unfold l28_light r28_Weight r28_Weight_l3; rw [h1]; rfl⟩
end Go.Ab
